/- A part. No condition. -/
import Derived.Test.YtegjlbpnpiigkaaGreatDoorP16
set_option linter.all false
namespace Go.Hs
section
variable{P:Program}
attribute [go_sem] bne_self_eq_false beq_self_eq_true
def orZ(k:IntKind)(a b:Int):Int:=k.wrap (BitVec.ofInt k.bits a ||| BitVec.ofInt k.bits b).toNat
section
variable(P)(t:TypeId)(k k':IntKind)(a b:Int)
@[go_sem] theorem binV_or:Zbi P .or t (.int k a) (.int k b)=some (.int k (orZ k a b)):=Z8c P t k a b .or zS zS
end
theorem Zf2{t:TypeId}(h:Zev P t=true)(s:List UInt8)(k:IntKind)(n:Int):Zwf P t (.str s) (.int k n)=if 0<=n then(s[n.toNat]?).map λb=>.int .u8 b.toNat else none:=by
 unfold Zev at h
 cases hu:P.underlying t with
 |none=>rw[hu]at h;simp at h
 |some d=>rw[hu]at h;cases d<;>simp at h;simp[Zwf,hu]
theorem Zx0{t:TypeId}(h:Zev P t=true)(s:List UInt8)(lo hi:Option V):Zpe P t (.str s) lo hi none =
  slJ (Zba 0 lo) (Zba s.length hi) λi j=>if i<=j/\j<=s.length then some (.str ((s.drop i).take (j-i)))else none:=by
 unfold Zev at h
 cases hu:P.underlying t with
 |none=>rw[hu]at h;simp at h
 |some d=>
  rw[hu]at h
  cases d<;>simp at h
  simp only[Zpe,hu,slJ]
  cases Zba 0 lo<;>cases Zba s.length hi<;>rfl
@[go_sem] theorem strV_add(a b:List UInt8):strV .add a b=if((a.length+b.length:Nat):Int)>IntKind.i64.max then none else some (.str (a++b)):=rfl
end
section
variable{P:Program}
def idxA(N m:Nat)(b:Bool)(a:V)(k:IntKind)(n:Int):Option V:=
 match a with
 |.ptr o g off=>if 0<=n/\n<N then some (.ptr o g (off+n.toNat*m))else none
 |.view c (.agg l)=>if 0<=n/\n<N then(Zoi b m l (n.toNat*m)).map (.view c)else none
 |_=>none
@[go_sem] theorem idxA_ptr(N m:Nat)(b:Bool)(k:IntKind)(o g off:Nat)(n:Int):idxA N m b (.ptr o g off) k n=if 0<=n/\n<N then some (.ptr o g (off+n.toNat*m))else none:=rfl
@[go_sem] theorem idxA_view(N m:Nat)(b:Bool)(k:IntKind)(c:Col)(l:List V)(n:Int):idxA N m b (.view c (.agg l)) k n=if 0<=n/\n<N then(Zoi b m l (n.toNat*m)).map (.view c)else none:=rfl
theorem Zxf{t e:TypeId}{N m:Nat}{b:Bool}(hu:P.underlying t=some (.array N e))(hs:Zbb P e=some m)(hb:Zge P e=some b)(h3:b=true\/m=1)(a:V)(k:IntKind)(n:Int):
  Zab P t a (.int k n)=idxA N m b a k n:=by
 unfold Zab idxA;rw[hu];simp only[hs]
 cases a<;>try rfl
 rename_i c v
 cases v<;>try rfl
 simp only[Z4e hb hs h3]
theorem Ztz{t e:TypeId}{N m:Nat}{b:Bool}(hu:P.underlying t=some (.array N e))(hs:Zbb P e=some m)(hb:Zge P e=some b)(h3:b=true\/m=1)(l:List V)(k:IntKind)(n:Int):
  Zwf P t (.agg l) (.int k n)=if 0<=n/\n<N then Zoi b m l (n.toNat*m)else none:=by
 unfold Zwf;rw[hu];simp only[hs,Z4e hb hs h3]
theorem Zek{t e:TypeId}{N m:Nat}{z:List V}(hu:P.underlying t=some (.array N e))(hs:Zbb P e=some m)(hz:Zae P t=some (.agg z))(parts:List (Nat×V)):
  Zie P t parts=(Zuc (mulP m) z parts).map .agg:=by
 unfold Zie;rw[hu,hz];simp only[hs];rfl
theorem Zzz:Z54 [] []=some true:=rfl
theorem Zdk{r s:List V}{q:Bool}(h:Z54 r s=some q)(k:IntKind)(a b:Int):Z54 (.int k a::r) (.int k b::s)=some (a==b&&q):=by
 have:eqC (.int k a) (.int k b)=some (a==b):=by simp[eqC]
 simp only[Z54,this]
 cases hab:(a==b)<;>simp[h]
def Zpda(P:Program)(t:TypeId)(ls:List V):Bool:=match P.underlying t with
 |some (.struct fs) => !P.stoodInHeld t && !P.eqGuardType P.depth t&&Zi2 P 0 fs.toList ls
 |_=>false
theorem Zhr{t:TypeId}{ls ms:List V}{q:Bool}(hf:Zpda P t ls=true)(he:Z54 ls ms=some q):Zbi P .eql t (.agg ls) (.agg ms)=some (.bool q)/\Zbi P .neq t (.agg ls) (.agg ms)=some (.bool (!q)):=by
 have:eqA P t ls ms=some q:=by
  unfold Zpda at hf;unfold eqA
  cases hu:P.underlying t with
  |none=>rw[hu]at hf;cases hf
  |some d=>
   cases d<;>rw[hu]at hf<;>simp only[Bool.and_eq_true,Bool.not_eq_true',Bool.false_eq_true]at hf
   simp only;rw[if_pos ⟨hf.1.1,hf.1.2,hf.2⟩,he]
 exact⟨by show(eqA P t ls ms).map _=_;rw[this];rfl,by show(eqA P t ls ms).map _=_;rw[this];rfl⟩
end
end Go.Hs
