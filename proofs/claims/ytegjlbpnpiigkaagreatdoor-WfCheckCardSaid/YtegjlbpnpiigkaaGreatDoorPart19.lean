/- Part 19 of a proof; no condition. -/
import Derived.Test.YtegjlbpnpiigkaaGreatDoorPart18
set_option linter.unusedSimpArgs false
set_option linter.unusedVariables false
section
namespace Go.Hs
section
variable {P:Program}
attribute [go_sem] bne_self_eq_false beq_self_eq_true
def orZ (k:IntKind) (a b:Int):Int:=k.wrap (BitVec.ofInt k.bits a ||| BitVec.ofInt k.bits b).toNat
section
variable (P) (t:TypeId) (k k':IntKind) (a b:Int)
@[go_sem] theorem binV_or:Zhm P .or t (.int k a) (.int k b)=some (.int k (orZ k a b)):=Zqd P t k a b .or (by simp) (by simp)
end
theorem Zn0 {t:TypeId} (h:Ziw P t=true) (s:List UInt8) (k:IntKind) (n:Int):Znh P t (.str s) (.int k n)=if 0≤n then (s[n.toNat]?).map fun b => .int .u8 b.toNat else none:=by
 unfold Ziw at h
 cases hu:P.underlying t with
 | none=>rw [hu] at h;simp at h
 | some d=>rw [hu] at h;cases d<;>simp at h;simp [Znh,hu]
theorem Zkz {t:TypeId} (h:Ziw P t=true) (s:List UInt8) (lo hi:Option V):Z2e P t (.str s) lo hi none =
  slJ (Zoa 0 lo) (Zoa s.length hi) fun i j=>if i≤j∧j≤s.length then some (.str ((s.drop i).take (j-i))) else none:=by
 unfold Ziw at h
 cases hu:P.underlying t with
 | none=>rw [hu] at h;simp at h
 | some d =>
  rw [hu] at h
  cases d<;>simp at h
  simp only [Z2e,hu,slJ]
  cases Zoa 0 lo<;>cases Zoa s.length hi<;>rfl
@[go_sem] theorem strV_add (a b:List UInt8):strV .add a b=if ((a.length+b.length:Nat):Int) > IntKind.i64.max then none else some (.str (a++b)):=rfl
end
section
variable {P:Program}
def idxA (N m:Nat) (b:Bool) (a:V) (k:IntKind) (n:Int):Option V :=
 match a with
 | .ptr o g off=>if 0≤n∧n<N then some (.ptr o g (off+n.toNat * m)) else none
 | .view c (.agg l)=>if 0≤n∧n<N then (Z6k b m l (n.toNat * m)).map (.view c) else none
 | _=>none
@[go_sem] theorem idxA_ptr (N m:Nat) (b:Bool) (k:IntKind) (o g off:Nat) (n:Int):idxA N m b (.ptr o g off) k n=if 0≤n∧n<N then some (.ptr o g (off+n.toNat * m)) else none:=rfl
@[go_sem] theorem idxA_view (N m:Nat) (b:Bool) (k:IntKind) (c:Col) (l:List V) (n:Int):idxA N m b (.view c (.agg l)) k n=if 0≤n∧n<N then (Z6k b m l (n.toNat * m)).map (.view c) else none:=rfl
theorem Zoh {t e:TypeId} {N m:Nat} {b:Bool} (hu:P.underlying t=some (.array N e)) (hs:Zqb P e=some m) (hb:Zxf P e=some b) (h3:b=true∨m=1) (a:V) (k:IntKind) (n:Int) :
  Z1b P t a (.int k n)=idxA N m b a k n:=by
 unfold Z1b idxA;rw [hu];simp only [hs]
 cases a<;>try rfl
 rename_i c v
 cases v<;>try rfl
 simp only [Zsg hb hs h3]
theorem Ziy {t e:TypeId} {N m:Nat} {b:Bool} (hu:P.underlying t=some (.array N e)) (hs:Zqb P e=some m) (hb:Zxf P e=some b) (h3:b=true∨m=1) (l:List V) (k:IntKind) (n:Int) :
  Znh P t (.agg l) (.int k n)=if 0≤n∧n<N then Z6k b m l (n.toNat * m) else none:=by
 unfold Znh;rw [hu];simp only [hs,Zsg hb hs h3]
theorem Zzm {t e:TypeId} {N m:Nat} {z:List V} (hu:P.underlying t=some (.array N e)) (hs:Zqb P e=some m) (hz:Zpf P t=some (.agg z)) (parts:List (Nat × V)) :
  Zzf P t parts=(Zwd (Z67 m) z parts).map .agg:=by
 unfold Zzf;rw [hu,hz];simp only [hs];rfl
theorem Zc7:Zf1 [] []=some true:=rfl
theorem Zpy {r s:List V} {q:Bool} (h:Zf1 r s=some q) (k:IntKind) (a b:Int):Zf1 (.int k a::r) (.int k b::s)=some (a==b && q):=by
 have:eqC (.int k a) (.int k b)=some (a==b):=by simp [eqC]
 simp only [Zf1,this]
 cases hab:(a==b)<;>simp [h]
def Zd8 (P:Program) (t:TypeId) (ls:List V):Bool:=match P.underlying t with
 | some (.struct fs) => !P.stoodInHeld t && !P.eqGuardType P.depth t && Zt0 P 0 fs.toList ls
 | _=>false
theorem Zq4 {t:TypeId} {ls ms:List V} {q:Bool} (hf:Zd8 P t ls=true) (he:Zf1 ls ms=some q):Zhm P .eql t (.agg ls) (.agg ms)=some (.bool q)∧Zhm P .neq t (.agg ls) (.agg ms)=some (.bool (!q)):=by
 have:eqA P t ls ms=some q:=by
  unfold Zd8 at hf;unfold eqA
  cases hu:P.underlying t with
  | none=>rw [hu] at hf;cases hf
  | some d =>
   cases d<;>rw [hu] at hf<;>simp only [Bool.and_eq_true,Bool.not_eq_true',Bool.false_eq_true] at hf
   simp only;rw [if_pos ⟨hf.1.1,hf.1.2,hf.2⟩,he]
 exact ⟨by show (eqA P t ls ms).map _=_;rw [this];rfl,by show (eqA P t ls ms).map _=_;rw [this];rfl⟩
end
end Go.Hs
end
