/- Part 19 of the proof of a statement of seat YtohdjmgdaaipaaaGreatDoor: HsSimp2 HsSimp3. -/
import Derived.Test.YtohdjmgdaaipaaaGreatDoorPart18
set_option linter.unusedSimpArgs false
set_option linter.unusedVariables false
section
namespace Go.Hs
variable {P:Program}
theorem Zjx {t:TypeId} (h:P.underlying t=some .bool) (a b:Bool):Zbj P .eql t (.bool a) (.bool b)=some (.bool (a==b))∧Zbj P .neq t (.bool a) (.bool b)=some (.bool (a != b)):=by
 constructor
 ·simp [Zbj,eqV,h]
 ·simp [Zbj,eqV,h,bne]
attribute [go_sem] bne_self_eq_false beq_self_eq_true
def orZ (k:IntKind) (a b:Int):Int:=k.wrap (BitVec.ofInt k.bits a ||| BitVec.ofInt k.bits b).toNat
section
variable (P) (t:TypeId) (k k':IntKind) (a b:Int)
@[go_sem] theorem binV_or:Zbj P .or t (.int k a) (.int k b)=some (.int k (orZ k a b)):=Zid P t k a b .or (by simp) (by simp)
end
theorem Z43 {t:TypeId} (h:Zrz P t=true) (s:List UInt8) (k:IntKind) (n:Int):Z2h P t (.str s) (.int k n)=if 0≤n then (s[n.toNat]?).map fun b => .int .u8 b.toNat else none:=by
 unfold Zrz at h
 cases hu:P.underlying t with
 | none=>rw [hu] at h;simp at h
 | some d=>rw [hu] at h;cases d<;>simp at h;simp [Z2h,hu]
theorem Zd3 {t:TypeId} (h:Zrz P t=true) (s:List UInt8) (lo hi:Option V):Zzf P t (.str s) lo hi none =
  slJ (Zna 0 lo) (Zna s.length hi) fun i j=>if i≤j∧j≤s.length then some (.str ((s.drop i).take (j-i))) else none:=by
 unfold Zrz at h
 cases hu:P.underlying t with
 | none=>rw [hu] at h;simp at h
 | some d =>
  rw [hu] at h
  cases d<;>simp at h
  simp only [Zzf,hu,slJ]
  cases Zna 0 lo<;>cases Zna s.length hi<;>rfl
@[go_sem] theorem strV_add (a b:List UInt8):strV .add a b=if ((a.length+b.length:Nat):Int) > IntKind.i64.max then none else some (.str (a++b)):=rfl
end Go.Hs
end

section
namespace Go.Hs
variable {P:Program}
def idxA (N m:Nat) (b:Bool) (a:V) (k:IntKind) (n:Int):Option V :=
 match a with
 | .ptr o g off=>if 0≤n∧n<N then some (.ptr o g (off+n.toNat * m)) else none
 | .view c (.agg l)=>if 0≤n∧n<N then (Zrj b m l (n.toNat * m)).map (.view c) else none
 | _=>none
@[go_sem] theorem idxA_ptr (N m:Nat) (b:Bool) (k:IntKind) (o g off:Nat) (n:Int):idxA N m b (.ptr o g off) k n=if 0≤n∧n<N then some (.ptr o g (off+n.toNat * m)) else none:=rfl
@[go_sem] theorem idxA_view (N m:Nat) (b:Bool) (k:IntKind) (c:Col) (l:List V) (n:Int):idxA N m b (.view c (.agg l)) k n=if 0≤n∧n<N then (Zrj b m l (n.toNat * m)).map (.view c) else none:=rfl
theorem Z3h {t e:TypeId} {N m:Nat} {b:Bool} (hu:P.underlying t=some (.array N e)) (hs:Zgc P e=some m) (hb:Z6f P e=some b) (h3:b=true∨m=1) (a:V) (k:IntKind) (n:Int) :
  Zoa P t a (.int k n)=idxA N m b a k n:=by
 unfold Zoa idxA;rw [hu];simp only [hs]
 cases a<;>try rfl
 rename_i c v
 cases v<;>try rfl
 simp only [Z7g hb hs h3]
theorem Zd2 {t e:TypeId} {N m:Nat} {b:Bool} (hu:P.underlying t=some (.array N e)) (hs:Zgc P e=some m) (hb:Z6f P e=some b) (h3:b=true∨m=1) (l:List V) (k:IntKind) (n:Int) :
  Z2h P t (.agg l) (.int k n)=if 0≤n∧n<N then Zrj b m l (n.toNat * m) else none:=by
 unfold Z2h;rw [hu];simp only [hs,Z7g hb hs h3]
theorem Zbt {t e:TypeId} {N m:Nat} {z:List V} (hu:P.underlying t=some (.array N e)) (hs:Zgc P e=some m) (hz:Z8f P t=some (.agg z)) (parts:List (Nat × V)) :
  Zec P t parts=(Zfc (mulP m) z parts).map .agg:=by
 unfold Zec;rw [hu,hz];simp only [hs];rfl
theorem Zj2:Zvz [] []=some true:=rfl
theorem Zje {r s:List V} {q:Bool} (h:Zvz r s=some q) (k:IntKind) (a b:Int):Zvz (.int k a::r) (.int k b::s)=some (a==b && q):=by
 have:eqC (.int k a) (.int k b)=some (a==b):=by simp [eqC]
 simp only [Zvz,this]
 cases hab:(a==b)<;>simp [h]
theorem Zi2 {r s:List V} {q:Bool} (h:Zvz r s=some q) (a b:List UInt8):Zvz (.str a::r) (.str b::s)=some (a==b && q):=by
 have:eqC (.str a) (.str b)=some (a==b):=rfl;simp only [Zvz,this]
 cases hab:(a==b)<;>simp [h]
def Z2ba (P:Program) (t:TypeId) (ls:List V):Bool:=match P.underlying t with
 | some (.struct fs) => !P.stoodInHeld t && !P.eqGuardType P.depth t && Z73 P 0 fs.toList ls
 | _=>false
theorem Zix {t:TypeId} {ls ms:List V} {q:Bool} (hf:Z2ba P t ls=true) (he:Zvz ls ms=some q):Zbj P .eql t (.agg ls) (.agg ms)=some (.bool q)∧Zbj P .neq t (.agg ls) (.agg ms)=some (.bool (!q)):=by
 have:eqA P t ls ms=some q:=by
  unfold Z2ba at hf;unfold eqA
  cases hu:P.underlying t with
  | none=>rw [hu] at hf;cases hf
  | some d =>
   cases d<;>rw [hu] at hf<;>simp only [Bool.and_eq_true,Bool.not_eq_true',Bool.false_eq_true] at hf
   simp only;rw [if_pos ⟨hf.1.1,hf.1.2,hf.2⟩,he]
 exact ⟨by show (eqA P t ls ms).map _=_;rw [this];rfl,by show (eqA P t ls ms).map _=_;rw [this];rfl⟩
end Go.Hs
end
