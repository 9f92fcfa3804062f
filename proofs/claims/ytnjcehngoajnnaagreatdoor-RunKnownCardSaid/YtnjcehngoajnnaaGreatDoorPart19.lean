/- Part 19 of a proof; no condition. -/
import Derived.Test.YtnjcehngoajnnaaGreatDoorPart18
set_option linter.unusedSimpArgs false
set_option linter.unusedVariables false
section
namespace Go.Hs
section
variable {P:Program}
theorem Z4y {t:TypeId} (h:P.underlying t=some .bool) (a b:Bool):Znh P .eql t (.bool a) (.bool b)=some (.bool (a==b))∧Znh P .neq t (.bool a) (.bool b)=some (.bool (a != b)):=by
 constructor
 ·simp [Znh,eqV,h]
 ·simp [Znh,eqV,h,bne]
attribute [go_sem] bne_self_eq_false beq_self_eq_true
@[go_sem] theorem Zsq:(true != false)=true:=rfl
@[go_sem] theorem Ztq:(false != true)=true:=rfl
def andZ (k:IntKind) (a b:Int):Int:=k.wrap (BitVec.ofInt k.bits a &&& BitVec.ofInt k.bits b).toNat
def orZ (k:IntKind) (a b:Int):Int:=k.wrap (BitVec.ofInt k.bits a ||| BitVec.ofInt k.bits b).toNat
def xorZ (k:IntKind) (a b:Int):Int:=k.wrap (BitVec.ofInt k.bits a ^^^ BitVec.ofInt k.bits b).toNat
def shrZ (k:IntKind) (a b:Int):Int:=a.fdiv (2 ^ (min b.toNat k.bits))
section
variable (P) (t:TypeId) (k k':IntKind) (a b:Int)
@[go_sem] theorem binV_and:Znh P .and t (.int k a) (.int k b)=some (.int k (andZ k a b)):=Z8c P t k a b .and (by simp) (by simp)
@[go_sem] theorem binV_or:Znh P .or t (.int k a) (.int k b)=some (.int k (orZ k a b)):=Z8c P t k a b .or (by simp) (by simp)
@[go_sem] theorem binV_xor:Znh P .xor t (.int k a) (.int k b)=some (.int k (xorZ k a b)):=Z8c P t k a b .xor (by simp) (by simp)
@[go_sem] theorem binV_shr:Znh P .shr t (.int k a) (.int k' b)=if b<0 then none else some (.int k (shrZ k a b)):=by
 simp only [Znh,Zo3,or_true,if_true,shrZ]
end
theorem Zc6 {t:TypeId} (h:Z61 P t=true) (s:List UInt8) (k:IntKind) (n:Int):Zgk P t (.str s) (.int k n)=if 0≤n then (s[n.toNat]?).map fun b => .int .u8 b.toNat else none:=by
 unfold Z61 at h
 cases hu:P.underlying t with
 | none=>rw [hu] at h;simp at h
 | some d=>rw [hu] at h;cases d<;>simp at h;simp [Zgk,hu]
theorem Zc5 {t:TypeId} (h:Z61 P t=true) (s:List UInt8) (lo hi:Option V):Zqg P t (.str s) lo hi none =
  slJ (Zpa 0 lo) (Zpa s.length hi) fun i j=>if i≤j∧j≤s.length then some (.str ((s.drop i).take (j-i))) else none:=by
 unfold Z61 at h
 cases hu:P.underlying t with
 | none=>rw [hu] at h;simp at h
 | some d =>
  rw [hu] at h
  cases d<;>simp at h
  simp only [Zqg,hu,slJ]
  cases Zpa 0 lo<;>cases Zpa s.length hi<;>rfl
@[go_sem] theorem strV_add (a b:List UInt8):strV .add a b=if ((a.length+b.length:Nat):Int) > IntKind.i64.max then none else some (.str (a++b)):=rfl
end
section
variable {P:Program}
def idxA (N m:Nat) (b:Bool) (a:V) (k:IntKind) (n:Int):Option V :=
 match a with
 | .ptr o g off=>if 0≤n∧n<N then some (.ptr o g (off+n.toNat * m)) else none
 | .view c (.agg l)=>if 0≤n∧n<N then (Z7j b m l (n.toNat * m)).map (.view c) else none
 | _=>none
@[go_sem] theorem idxA_ptr (N m:Nat) (b:Bool) (k:IntKind) (o g off:Nat) (n:Int):idxA N m b (.ptr o g off) k n=if 0≤n∧n<N then some (.ptr o g (off+n.toNat * m)) else none:=rfl
@[go_sem] theorem idxA_view (N m:Nat) (b:Bool) (k:IntKind) (c:Col) (l:List V) (n:Int):idxA N m b (.view c (.agg l)) k n=if 0≤n∧n<N then (Z7j b m l (n.toNat * m)).map (.view c) else none:=rfl
theorem Zti {t e:TypeId} {N m:Nat} {b:Bool} (hu:P.underlying t=some (.array N e)) (hs:Z6b P e=some m) (hb:Zwg P e=some b) (h3:b=true∨m=1) (a:V) (k:IntKind) (n:Int) :
  Zja P t a (.int k n)=idxA N m b a k n:=by
 unfold Zja idxA;rw [hu];simp only [hs]
 cases a<;>try rfl
 rename_i c v
 cases v<;>try rfl
 simp only [Z8f hb hs h3]
theorem Znda {t e:TypeId} {N m:Nat} {b:Bool} (hu:P.underlying t=some (.array N e)) (hs:Z6b P e=some m) (hb:Zwg P e=some b) (h3:b=true∨m=1) (l:List V) (k:IntKind) (n:Int) :
  Zgk P t (.agg l) (.int k n)=if 0≤n∧n<N then Z7j b m l (n.toNat * m) else none:=by
 unfold Zgk;rw [hu];simp only [hs,Z8f hb hs h3]
theorem Zqu {t e:TypeId} {N m:Nat} {z:List V} (hu:P.underlying t=some (.array N e)) (hs:Z6b P e=some m) (hz:Zlg P t=some (.agg z)) (parts:List (Nat × V)) :
  Z8a P t parts=(Zkb (mulP m) z parts).map .agg:=by
 unfold Z8a;rw [hu,hz];simp only [hs];rfl
theorem Zuo:Z2w [] []=some true:=rfl
theorem Zxj {r s:List V} {q:Bool} (h:Z2w r s=some q) (k:IntKind) (a b:Int):Z2w (.int k a::r) (.int k b::s)=some (a==b && q):=by
 have:eqC (.int k a) (.int k b)=some (a==b):=by simp [eqC]
 simp only [Z2w,this]
 cases hab:(a==b)<;>simp [h]
theorem Zj4 {r s:List V} {q:Bool} (h:Z2w r s=some q) (a b:List UInt8):Z2w (.str a::r) (.str b::s)=some (a==b && q):=by
 have:eqC (.str a) (.str b)=some (a==b):=rfl;simp only [Z2w,this]
 cases hab:(a==b)<;>simp [h]
theorem Zsy {r s:List V} {q:Bool} (h:Z2w r s=some q) (a b:Bool):Z2w (.bool a::r) (.bool b::s)=some (a==b && q):=by
 have:eqC (.bool a) (.bool b)=some (a==b):=rfl;simp only [Z2w,this]
 cases hab:(a==b)<;>simp [h]
def Z6ea (P:Program) (t:TypeId) (ls:List V):Bool:=match P.underlying t with
 | some (.struct fs) => !P.stoodInHeld t && !P.eqGuardType P.depth t && Zf6 P 0 fs.toList ls
 | _=>false
theorem Zim {t:TypeId} {ls ms:List V} {q:Bool} (hf:Z6ea P t ls=true) (he:Z2w ls ms=some q):Znh P .eql t (.agg ls) (.agg ms)=some (.bool q)∧Znh P .neq t (.agg ls) (.agg ms)=some (.bool (!q)):=by
 have:eqA P t ls ms=some q:=by
  unfold Z6ea at hf;unfold eqA
  cases hu:P.underlying t with
  | none=>rw [hu] at hf;cases hf
  | some d =>
   cases d<;>rw [hu] at hf<;>simp only [Bool.and_eq_true,Bool.not_eq_true',Bool.false_eq_true] at hf
   simp only;rw [if_pos ⟨hf.1.1,hf.1.2,hf.2⟩,he]
 exact ⟨by show (eqA P t ls ms).map _=_;rw [this];rfl,by show (eqA P t ls ms).map _=_;rw [this];rfl⟩
end
end Go.Hs
end
