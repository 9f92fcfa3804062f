/- A part. No condition. -/
import Derived.Test.YtegjlbpnpiigkaaGreatDoorP16
set_option linter.all false
namespace Go.Hs
section
variable{P:Program}
theorem Zzja{t:TypeId}(h:P.underlying t=some .bool)(a b:Bool):Zlh P .eql t (.bool a) (.bool b)=some (.bool (a==b))/\Zlh P .neq t (.bool a) (.bool b)=some (.bool (a != b)):=by
 constructor
 simp[Zlh,eqV,h];simp[Zlh,eqV,h,bne]
attribute [go_sem] bne_self_eq_false beq_self_eq_true
@[go_sem] theorem bool_beq_tf:(true==false)=false:=rfl
def orZ(k:IntKind)(a b:Int):Int:=k.wrap (BitVec.ofInt k.bits a ||| BitVec.ofInt k.bits b).toNat
section
variable(P)(t:TypeId)(k k':IntKind)(a b:Int)
@[go_sem] theorem binV_or:Zlh P .or t (.int k a) (.int k b)=some (.int k (orZ k a b)):=Zgd P t k a b .or zS zS
end
theorem Z3ba{t:TypeId}(h:Zs2 P t=true)(s:List UInt8)(k:IntKind)(n:Int):Zyh P t (.str s) (.int k n)=if 0<=n then(s[n.toNat]?).map λb=>.int .u8 b.toNat else none:=by
 unfold Zs2 at h
 cases hu:P.underlying t with
 |none=>rw[hu]at h;simp at h
 |some d=>rw[hu]at h;cases d<;>simp at h;simp[Zyh,hu]
theorem Zgaa{t:TypeId}(h:Zs2 P t=true)(s:List UInt8)(lo hi:Option V):Zaf P t (.str s) lo hi none =
  slJ (Zpa 0 lo) (Zpa s.length hi) λi j=>if i<=j/\j<=s.length then some (.str ((s.drop i).take (j-i)))else none:=by
 unfold Zs2 at h
 cases hu:P.underlying t with
 |none=>rw[hu]at h;simp at h
 |some d=>
  rw[hu]at h
  cases d<;>simp at h
  simp only[Zaf,hu,slJ]
  cases Zpa 0 lo<;>cases Zpa s.length hi<;>rfl
@[go_sem] theorem strV_add(a b:List UInt8):strV .add a b=if((a.length+b.length:Nat):Int)>IntKind.i64.max then none else some (.str (a++b)):=rfl
end
section
variable{P:Program}
def idxA(N m:Nat)(b:Bool)(a:V)(k:IntKind)(n:Int):Option V:=
 match a with
 |.ptr o g off=>if 0<=n/\n<N then some (.ptr o g (off+n.toNat*m))else none
 |.view c (.agg l)=>if 0<=n/\n<N then(Zvl b m l (n.toNat*m)).map (.view c)else none
 |_=>none
@[go_sem] theorem idxA_ptr(N m:Nat)(b:Bool)(k:IntKind)(o g off:Nat)(n:Int):idxA N m b (.ptr o g off) k n=if 0<=n/\n<N then some (.ptr o g (off+n.toNat*m))else none:=rfl
@[go_sem] theorem idxA_view(N m:Nat)(b:Bool)(k:IntKind)(c:Col)(l:List V)(n:Int):idxA N m b (.view c (.agg l)) k n=if 0<=n/\n<N then(Zvl b m l (n.toNat*m)).map (.view c)else none:=rfl
theorem Zzh{t e:TypeId}{N m:Nat}{b:Bool}(hu:P.underlying t=some (.array N e))(hs:Znb P e=some m)(hb:Z8f P e=some b)(h3:b=true\/m=1)(a:V)(k:IntKind)(n:Int):
  Z3b P t a (.int k n)=idxA N m b a k n:=by
 unfold Z3b idxA;rw[hu];simp only[hs]
 cases a<;>try rfl
 rename_i c v
 cases v<;>try rfl
 simp only[Z3g hb hs h3]
theorem Z68{t e:TypeId}{N m:Nat}{b:Bool}(hu:P.underlying t=some (.array N e))(hs:Znb P e=some m)(hb:Z8f P e=some b)(h3:b=true\/m=1)(l:List V)(k:IntKind)(n:Int):
  Zyh P t (.agg l) (.int k n)=if 0<=n/\n<N then Zvl b m l (n.toNat*m)else none:=by
 unfold Zyh;rw[hu];simp only[hs,Z3g hb hs h3]
theorem Z7n{t e:TypeId}{N m:Nat}{z:List V}(hu:P.underlying t=some (.array N e))(hs:Znb P e=some m)(hz:Z8e P t=some (.agg z))(parts:List (Nat×V)):
  Zag P t parts=(Zzd (mulP m) z parts).map .agg:=by
 unfold Zag;rw[hu,hz];simp only[hs];rfl
theorem Zd9:eqCs [] []=some true:=rfl
theorem Z6n{r s:List V}{q:Bool}(h:eqCs r s=some q)(k:IntKind)(a b:Int):eqCs (.int k a::r) (.int k b::s)=some (a==b&&q):=by
 have:eqC (.int k a) (.int k b)=some (a==b):=by simp[eqC]
 simp only[eqCs,this]
 cases hab:(a==b)<;>simp[h]
def Zfpa(P:Program)(t:TypeId)(ls:List V):Bool:=match P.underlying t with
 |some (.struct fs) => !P.stoodInHeld t && !P.eqGuardType P.depth t&&Z7ba P 0 fs.toList ls
 |_=>false
theorem Zjx{t:TypeId}{ls ms:List V}{q:Bool}(hf:Zfpa P t ls=true)(he:eqCs ls ms=some q):Zlh P .eql t (.agg ls) (.agg ms)=some (.bool q)/\Zlh P .neq t (.agg ls) (.agg ms)=some (.bool (!q)):=by
 have:eqA P t ls ms=some q:=by
  unfold Zfpa at hf;unfold eqA
  cases hu:P.underlying t with
  |none=>rw[hu]at hf;cases hf
  |some d=>
   cases d<;>rw[hu]at hf<;>simp only[Bool.and_eq_true,Bool.not_eq_true',Bool.false_eq_true]at hf
   simp only;rw[if_pos ⟨hf.1.1,hf.1.2,hf.2⟩,he]
 exact⟨by show(eqA P t ls ms).map _=_;rw[this];rfl,by show(eqA P t ls ms).map _=_;rw[this];rfl⟩
end
end Go.Hs
