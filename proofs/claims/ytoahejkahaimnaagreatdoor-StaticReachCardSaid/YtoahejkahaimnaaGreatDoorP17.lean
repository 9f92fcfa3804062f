/- A part. No condition. -/
import Derived.Test.YtoahejkahaimnaaGreatDoorP16
set_option linter.all false
namespace Go.Hs
section
variable{P:Program}
attribute [go_sem] bne_self_eq_false beq_self_eq_true
def orZ(k:IntKind)(a b:Int):Int:=k.wrap (BitVec.ofInt k.bits a ||| BitVec.ofInt k.bits b).toNat
section
variable(P)(t:TypeId)(k k':IntKind)(a b:Int)
@[go_sem] theorem binV_or:Zvm P .or t (.int k a) (.int k b)=some (.int k (orZ k a b)):=Zue P t k a b .or zS zS
end
theorem Z59{t:TypeId}(h:Zm0 P t=true)(s:List UInt8)(k:IntKind)(n:Int):Zih P t (.str s) (.int k n)=if 0<=n then(s[n.toNat]?).map λb=>.int .u8 b.toNat else none:=by
 unfold Zm0 at h
 cases hu:P.underlying t with
 |none=>rw[hu]at h;simp at h
 |some d=>rw[hu]at h;cases d<;>simp at h;simp[Zih,hu]
theorem Zb8{t:TypeId}(h:Zm0 P t=true)(s:List UInt8)(lo hi:Option V):Zge P t (.str s) lo hi none =
  slJ (Zga 0 lo) (Zga s.length hi) λi j=>if i<=j/\j<=s.length then some (.str ((s.drop i).take (j-i)))else none:=by
 unfold Zm0 at h
 cases hu:P.underlying t with
 |none=>rw[hu]at h;simp at h
 |some d=>
  rw[hu]at h
  cases d<;>simp at h
  simp only[Zge,hu,slJ]
  cases Zga 0 lo<;>cases Zga s.length hi<;>rfl
@[go_sem] theorem strV_add(a b:List UInt8):strV .add a b=if((a.length+b.length:Nat):Int)>IntKind.i64.max then none else some (.str (a++b)):=rfl
end
section
variable{P:Program}
def idxA(N m:Nat)(b:Bool)(a:V)(k:IntKind)(n:Int):Option V:=
 match a with
 |.ptr o g off=>if 0<=n/\n<N then some (.ptr o g (off+n.toNat*m))else none
 |.view c (.agg l)=>if 0<=n/\n<N then(Z2k b m l (n.toNat*m)).map (.view c)else none
 |_=>none
@[go_sem] theorem idxA_ptr(N m:Nat)(b:Bool)(k:IntKind)(o g off:Nat)(n:Int):idxA N m b (.ptr o g off) k n=if 0<=n/\n<N then some (.ptr o g (off+n.toNat*m))else none:=rfl
@[go_sem] theorem idxA_view(N m:Nat)(b:Bool)(k:IntKind)(c:Col)(l:List V)(n:Int):idxA N m b (.view c (.agg l)) k n=if 0<=n/\n<N then(Z2k b m l (n.toNat*m)).map (.view c)else none:=rfl
theorem Zjh{t e:TypeId}{N m:Nat}{b:Bool}(hu:P.underlying t=some (.array N e))(hs:Z9a P e=some m)(hb:Zof P e=some b)(h3:b=true\/m=1)(a:V)(k:IntKind)(n:Int):
  Zyb P t a (.int k n)=idxA N m b a k n:=by
 unfold Zyb idxA;rw[hu];simp only[hs]
 cases a<;>try rfl
 rename_i c v
 cases v<;>try rfl
 simp only[Zjg hb hs h3]
theorem Zj6{t e:TypeId}{N m:Nat}{b:Bool}(hu:P.underlying t=some (.array N e))(hs:Z9a P e=some m)(hb:Zof P e=some b)(h3:b=true\/m=1)(l:List V)(k:IntKind)(n:Int):
  Zih P t (.agg l) (.int k n)=if 0<=n/\n<N then Z2k b m l (n.toNat*m)else none:=by
 unfold Zih;rw[hu];simp only[hs,Zjg hb hs h3]
theorem Zum{t e:TypeId}{N m:Nat}{z:List V}(hu:P.underlying t=some (.array N e))(hs:Z9a P e=some m)(hz:Zre P t=some (.agg z))(parts:List (Nat×V)):
  Zff P t parts=(Zsd (mulP m) z parts).map .agg:=by
 unfold Zff;rw[hu,hz];simp only[hs];rfl
end
end Go.Hs
