/- A part. No condition. -/
import Derived.Test.YtkennpiglkfalaaGreatDoorP16
set_option linter.all false
open Option renaming some->ae,none->ah
namespace Go.Hs
section
variable{P:Program}
attribute [go_sem] bne_self_eq_false beq_self_eq_true
def ak(k:IntKind)(a b:Int):Int:=k.wrap (BitVec.ofInt k.bits a ||| BitVec.ofInt k.bits b).toNat
section
variable(P)(t:TypeId)(k k':IntKind)(a b:Int)
@[go_sem] def ADX:Pl P .or t (.int k a) (.int k b)=ae (.int k (ak k a b)):=T3 P t k a b _ zS zS
end
def si{t}(h:NU P t=true)(s k n):Ok P t (.AB s) (.int k n)=if 0<=n then(s[n.toNat]?).map λb=>.int .u8 b.toNat else ah:=by unfold NU at h;rcases a:P.underlying t with _|d;grind;rw[a]at h;cases d<;>simp at h;simp[Ok,a]
def rN{t}(h:NU P t=true)(s lo hi):Uz P t (.AB s) lo hi ah =
  JP (Y5 0 lo) (Y5 s.length hi) λi j=>if i<=j/\j<=s.length then ae (.AB ((s.drop i).take (j-i)))else ah:=by
 unfold NU at h;rcases a:P.underlying t with _|d;rw[a]at h;simp at h;rw[a]at h;cases d<;>simp at h;simp only[Uz,a,JP];cases Y5 0 lo<;>cases Y5 _ hi<;>rfl
@[go_sem] def AEX(a b):OE .add a b=if((a.length+b.length:Nat):Int)>IntKind.i64.max then ah else ae (.AB (a++b)):=rfl
end
section
variable{P:Program}
def NZ(N m:Nat)(b:Bool)(a:V)(k:IntKind)(n:Int):Option V:=
 match a with|.ptr o g off=>if 0<=n/\n<N then ae (.ptr o g (off+n.toNat*m))else ah|.view c (.agg l)=>if 0<=n/\n<N then(N5 b m l (n.toNat*m)).map (.view c)else ah|_=>ah
@[go_sem] def ADk(N m b k o g off n):NZ N m b (.ptr o g off) k n=if 0<=n/\n<N then ae (.ptr o g (off+n.toNat*m))else ah:=rfl
@[go_sem] def ADl(N m b k c l n):NZ N m b (.view c (.agg l)) k n=if 0<=n/\n<N then(N5 b m l (n.toNat*m)).map (.view c)else ah:=rfl
def Lr{t e N m b}(f:P.underlying t=ae (.array N e))(d:Y0 P e=ae m)(g:R1 P e=ae b)(h:b=true\/m=1)(a k n):Vu P t a (.int k n)=NZ N m b a k n:=by
 unfold Vu NZ;rw[f];simp only[d];cases a<;>try rfl
 rename_i c v;cases v<;>try rfl
 simp only[O5 g d h]
def iY{t e N m b}(c:P.underlying t=ae (.array N e))(a:Y0 P e=ae m)(d:R1 P e=ae b)(f:b=true\/m=1)(l k n):Ok P t (.agg l) (.int k n)=if 0<=n/\n<N then N5 b m l (n.toNat*m)else ah:=by unfold Ok;rw[c];simp only[a,O5 d a f]
def Er{t e N m z}(b:P.underlying t=ae (.array N e))(c:Y0 P e=ae m)(a:Tj P t=ae (.agg z))(CC):S3 P t CC=(Uo (MN m) z CC).map .agg:=by unfold S3;rw[b,a];simp only[c];rfl
