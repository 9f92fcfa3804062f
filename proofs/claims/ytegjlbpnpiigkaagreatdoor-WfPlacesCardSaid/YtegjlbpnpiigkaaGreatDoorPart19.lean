/- Part 19 of a proof; no condition. -/
import Derived.Test.YtegjlbpnpiigkaaGreatDoorPart18
set_option linter.unusedSimpArgs false
set_option linter.unusedVariables false
section
namespace Go.Hs
section
variable {P:Program}
theorem Z34 {t:TypeId} (h:P.underlying t=some .bool) (a b:Bool):Zqj P .eql t (.bool a) (.bool b)=some (.bool (a==b))∧Zqj P .neq t (.bool a) (.bool b)=some (.bool (a != b)):=by
 constructor
 ·simp [Zqj,eqV,h]
 ·simp [Zqj,eqV,h,bne]
attribute [go_sem] bne_self_eq_false beq_self_eq_true
@[go_sem] theorem bool_beq_tf:(true==false)=false:=rfl
def orZ (k:IntKind) (a b:Int):Int:=k.wrap (BitVec.ofInt k.bits a ||| BitVec.ofInt k.bits b).toNat
section
variable (P) (t:TypeId) (k k':IntKind) (a b:Int)
@[go_sem] theorem binV_or:Zqj P .or t (.int k a) (.int k b)=some (.int k (orZ k a b)):=Zqd P t k a b .or (by simp) (by simp)
end
theorem Zv0 {t:TypeId} (h:Ztw P t=true) (s:List UInt8) (k:IntKind) (n:Int):Zqh P t (.str s) (.int k n)=if 0≤n then (s[n.toNat]?).map fun b => .int .u8 b.toNat else none:=by
 unfold Ztw at h
 cases hu:P.underlying t with
 | none=>rw [hu] at h;simp at h
 | some d=>rw [hu] at h;cases d<;>simp at h;simp [Zqh,hu]
theorem Zvz {t:TypeId} (h:Ztw P t=true) (s:List UInt8) (lo hi:Option V):Z3e P t (.str s) lo hi none =
  slJ (Zoa 0 lo) (Zoa s.length hi) fun i j=>if i≤j∧j≤s.length then some (.str ((s.drop i).take (j-i))) else none:=by
 unfold Ztw at h
 cases hu:P.underlying t with
 | none=>rw [hu] at h;simp at h
 | some d =>
  rw [hu] at h
  cases d<;>simp at h
  simp only [Z3e,hu,slJ]
  cases Zoa 0 lo<;>cases Zoa s.length hi<;>rfl
@[go_sem] theorem strV_add (a b:List UInt8):strV .add a b=if ((a.length+b.length:Nat):Int) > IntKind.i64.max then none else some (.str (a++b)):=rfl
end
section
variable {P:Program}
def idxA (N m:Nat) (b:Bool) (a:V) (k:IntKind) (n:Int):Option V :=
 match a with
 | .ptr o g off=>if 0≤n∧n<N then some (.ptr o g (off+n.toNat * m)) else none
 | .view c (.agg l)=>if 0≤n∧n<N then (Zgl b m l (n.toNat * m)).map (.view c) else none
 | _=>none
@[go_sem] theorem idxA_ptr (N m:Nat) (b:Bool) (k:IntKind) (o g off:Nat) (n:Int):idxA N m b (.ptr o g off) k n=if 0≤n∧n<N then some (.ptr o g (off+n.toNat * m)) else none:=rfl
@[go_sem] theorem idxA_view (N m:Nat) (b:Bool) (k:IntKind) (c:Col) (l:List V) (n:Int):idxA N m b (.view c (.agg l)) k n=if 0≤n∧n<N then (Zgl b m l (n.toNat * m)).map (.view c) else none:=rfl
theorem Zrh {t e:TypeId} {N m:Nat} {b:Bool} (hu:P.underlying t=some (.array N e)) (hs:Zqb P e=some m) (hb:Zzf P e=some b) (h3:b=true∨m=1) (a:V) (k:IntKind) (n:Int) :
  Z2b P t a (.int k n)=idxA N m b a k n:=by
 unfold Z2b idxA;rw [hu];simp only [hs]
 cases a<;>try rfl
 rename_i c v
 cases v<;>try rfl
 simp only [Ztg hb hs h3]
theorem Zuy {t e:TypeId} {N m:Nat} {b:Bool} (hu:P.underlying t=some (.array N e)) (hs:Zqb P e=some m) (hb:Zzf P e=some b) (h3:b=true∨m=1) (l:List V) (k:IntKind) (n:Int) :
  Zqh P t (.agg l) (.int k n)=if 0≤n∧n<N then Zgl b m l (n.toNat * m) else none:=by
 unfold Zqh;rw [hu];simp only [hs,Ztg hb hs h3]
theorem Z6m {t e:TypeId} {N m:Nat} {z:List V} (hu:P.underlying t=some (.array N e)) (hs:Zqb P e=some m) (hz:Zrf P t=some (.agg z)) (parts:List (Nat × V)) :
  Z3f P t parts=(Zwd (Zl8 m) z parts).map .agg:=by
 unfold Z3f;rw [hu,hz];simp only [hs];rfl
theorem Zo7:Zn1 [] []=some true:=rfl
theorem Z1y {r s:List V} {q:Bool} (h:Zn1 r s=some q) (k:IntKind) (a b:Int):Zn1 (.int k a::r) (.int k b::s)=some (a==b && q):=by
 have:eqC (.int k a) (.int k b)=some (a==b):=by simp [eqC]
 simp only [Zn1,this]
 cases hab:(a==b)<;>simp [h]
def Zu8 (P:Program) (t:TypeId) (ls:List V):Bool:=match P.underlying t with
 | some (.struct fs) => !P.stoodInHeld t && !P.eqGuardType P.depth t && Z10 P 0 fs.toList ls
 | _=>false
theorem Z24 {t:TypeId} {ls ms:List V} {q:Bool} (hf:Zu8 P t ls=true) (he:Zn1 ls ms=some q):Zqj P .eql t (.agg ls) (.agg ms)=some (.bool q)∧Zqj P .neq t (.agg ls) (.agg ms)=some (.bool (!q)):=by
 have:eqA P t ls ms=some q:=by
  unfold Zu8 at hf;unfold eqA
  cases hu:P.underlying t with
  | none=>rw [hu] at hf;cases hf
  | some d =>
   cases d<;>rw [hu] at hf<;>simp only [Bool.and_eq_true,Bool.not_eq_true',Bool.false_eq_true] at hf
   simp only;rw [if_pos ⟨hf.1.1,hf.1.2,hf.2⟩,he]
 exact ⟨by show (eqA P t ls ms).map _=_;rw [this];rfl,by show (eqA P t ls ms).map _=_;rw [this];rfl⟩
end
end Go.Hs
end
