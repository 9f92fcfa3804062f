/- A part. No condition. -/
import Derived.Test.YtjplgaebbfabnaaGreatDoorP16
set_option linter.all false
namespace Go.Hs
section
variable{P:Program}
theorem Zg2{t:TypeId}(h:P.underlying t=some .bool)(a b:Bool):Un P .eql t (.bool a) (.bool b)=some (.bool (a==b))/\Un P .neq t (.bool a) (.bool b)=some (.bool (a != b)):=by
 constructor
 simp[Un,eqV,h];simp[Un,eqV,h,bne]
attribute [go_sem] bne_self_eq_false beq_self_eq_true
def orZ(k:IntKind)(a b:Int):Int:=k.wrap (BitVec.ofInt k.bits a ||| BitVec.ofInt k.bits b).toNat
section
variable(P)(t:TypeId)(k k':IntKind)(a b:Int)
@[go_sem] theorem binV_or:Un P .or t (.int k a) (.int k b)=some (.int k (orZ k a b)):=T4 P t k a b .or zS zS
end
theorem Z6s{t:TypeId}(h:Cy P t=true)(s:List UInt8)(k:IntKind)(n:Int):Qf P t (.str s) (.int k n)=if 0<=n then(s[n.toNat]?).map λb=>.int .u8 b.toNat else none:=by
 unfold Cy at h
 cases a:P.underlying t with
 |none=>grind
 |some d=>rw[a]at h;cases d<;>simp at h;simp[Qf,a]
theorem Z3q{t:TypeId}(h:Cy P t=true)(s:List UInt8)(lo hi:Option V):Ub P t (.str s) lo hi none =
  slJ (Yu 0 lo) (Yu s.length hi) λi j=>if i<=j/\j<=s.length then some (.str ((s.drop i).take (j-i)))else none:=by
 unfold Cy at h
 cases a:P.underlying t with
 |none=>rw[a]at h;simp at h
 |some d=>
  rw[a]at h
  cases d<;>simp at h
  simp only[Ub,a,slJ]
  cases Yu 0 lo<;>cases Yu s.length hi<;>rfl
@[go_sem] theorem strV_add(a b:List UInt8):Zoq .add a b=if((a.length+b.length:Nat):Int)>IntKind.i64.max then none else some (.str (a++b)):=rfl
end
section
variable{P:Program}
def Zyj(N m:Nat)(b:Bool)(a:V)(k:IntKind)(n:Int):Option V:=
 match a with
 |.ptr o g off=>if 0<=n/\n<N then some (.ptr o g (off+n.toNat*m))else none
 |.view c (.agg l)=>if 0<=n/\n<N then(Ps b m l (n.toNat*m)).map (.view c)else none
 |_=>none
@[go_sem] theorem idxA_ptr(N m:Nat)(b:Bool)(k:IntKind)(o g off:Nat)(n:Int):Zyj N m b (.ptr o g off) k n=if 0<=n/\n<N then some (.ptr o g (off+n.toNat*m))else none:=rfl
@[go_sem] theorem idxA_view(N m:Nat)(b:Bool)(k:IntKind)(c:Col)(l:List V)(n:Int):Zyj N m b (.view c (.agg l)) k n=if 0<=n/\n<N then(Ps b m l (n.toNat*m)).map (.view c)else none:=rfl
theorem Qo{t e:TypeId}{N m:Nat}{b:Bool}(f:P.underlying t=some (.array N e))(d:Yw P e=some m)(g:S0 P e=some b)(h:b=true\/m=1)(a:V)(k:IntKind)(n:Int):
  Wx P t a (.int k n)=Zyj N m b a k n:=by
 unfold Wx Zyj;rw[f];simp only[d]
 cases a<;>try rfl
 rename_i c v
 cases v<;>try rfl
 simp only[Pq g d h]
theorem Cz{t e:TypeId}{N m:Nat}{b:Bool}(c:P.underlying t=some (.array N e))(a:Yw P e=some m)(d:S0 P e=some b)(f:b=true\/m=1)(l:List V)(k:IntKind)(n:Int):
  Qf P t (.agg l) (.int k n)=if 0<=n/\n<N then Ps b m l (n.toNat*m)else none:=by
 unfold Qf;rw[c];simp only[a,Pq d a f]
theorem O2{t e:TypeId}{N m:Nat}{z:List V}(c:P.underlying t=some (.array N e))(d:Yw P e=some m)(b:Uv P t=some (.agg z))(a:List (Nat×V)):
  Ta P t a=(Vk (Aq m) z a).map .agg:=by
 unfold Ta;rw[c,b];simp only[d];rfl
end
end Go.Hs
