/- A part. No condition. -/
import Derived.Test.YtoahejkahaimnaaGreatDoorP16
set_option linter.all false
namespace Go.Hs
section
variable{P:Program}
attribute [go_sem] bne_self_eq_false beq_self_eq_true
def orZ(k:IntKind)(a b:Int):Int:=k.wrap (BitVec.ofInt k.bits a ||| BitVec.ofInt k.bits b).toNat
section
variable(P)(t:TypeId)(k k':IntKind)(a b:Int)
@[go_sem] theorem binV_or:Rp P .or t (.int k a) (.int k b)=some (.int k (orZ k a b)):=T7 P t k a b .or zS zS
end
theorem Zzo{t:TypeId}(h:E9 P t=true)(s:List UInt8)(k:IntKind)(n:Int):R2 P t (.str s) (.int k n)=if 0<=n then(s[n.toNat]?).map λb=>.int .u8 b.toNat else none:=by
 unfold E9 at h
 cases a:P.underlying t with
 |none=>grind
 |some d=>rw[a]at h;cases d<;>simp at h;simp[R2,a]
theorem Z7m{t:TypeId}(h:E9 P t=true)(s:List UInt8)(lo hi:Option V):Uh P t (.str s) lo hi none =
  slJ (Yj 0 lo) (Yj s.length hi) λi j=>if i<=j/\j<=s.length then some (.str ((s.drop i).take (j-i)))else none:=by
 unfold E9 at h
 cases a:P.underlying t with
 |none=>rw[a]at h;simp at h
 |some d=>
  rw[a]at h
  cases d<;>simp at h
  simp only[Uh,a,slJ]
  cases Yj 0 lo<;>cases Yj s.length hi<;>rfl
@[go_sem] theorem strV_add(a b:List UInt8):Zsm .add a b=if((a.length+b.length:Nat):Int)>IntKind.i64.max then none else some (.str (a++b)):=rfl
end
section
variable{P:Program}
def Z5o(N m:Nat)(b:Bool)(a:V)(k:IntKind)(n:Int):Option V:=
 match a with
 |.ptr o g off=>if 0<=n/\n<N then some (.ptr o g (off+n.toNat*m))else none
 |.view c (.agg l)=>if 0<=n/\n<N then(Q8 b m l (n.toNat*m)).map (.view c)else none
 |_=>none
@[go_sem] theorem idxA_ptr(N m:Nat)(b:Bool)(k:IntKind)(o g off:Nat)(n:Int):Z5o N m b (.ptr o g off) k n=if 0<=n/\n<N then some (.ptr o g (off+n.toNat*m))else none:=rfl
@[go_sem] theorem idxA_view(N m:Nat)(b:Bool)(k:IntKind)(c:Col)(l:List V)(n:Int):Z5o N m b (.view c (.agg l)) k n=if 0<=n/\n<N then(Q8 b m l (n.toNat*m)).map (.view c)else none:=rfl
theorem Og{t e:TypeId}{N m:Nat}{b:Bool}(f:P.underlying t=some (.array N e))(d:Yp P e=some m)(g:T1 P e=some b)(h:b=true\/m=1)(a:V)(k:IntKind)(n:Int):
  Wt P t a (.int k n)=Z5o N m b a k n:=by
 unfold Wt Z5o;rw[f];simp only[d]
 cases a<;>try rfl
 rename_i c v
 cases v<;>try rfl
 simp only[Qi g d h]
theorem Z0g{t e:TypeId}{N m:Nat}{b:Bool}(c:P.underlying t=some (.array N e))(a:Yp P e=some m)(d:T1 P e=some b)(f:b=true\/m=1)(l:List V)(k:IntKind)(n:Int):
  R2 P t (.agg l) (.int k n)=if 0<=n/\n<N then Q8 b m l (n.toNat*m)else none:=by
 unfold R2;rw[c];simp only[a,Qi d a f]
theorem Jm{t e:TypeId}{N m:Nat}{z:List V}(c:P.underlying t=some (.array N e))(d:Yp P e=some m)(b:Ua P t=some (.agg z))(a:List (Nat×V)):
  Tf P t a=(Vh (Zrg m) z a).map .agg:=by
 unfold Tf;rw[c,b];simp only[d];rfl
end
end Go.Hs
