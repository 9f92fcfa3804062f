/- Part 19 of the proof of a statement of seat YtnjcehngoajnnaaGreatDoor: HsSimp2. -/
import Derived.Test.YtnjcehngoajnnaaGreatDoorPart18
set_option linter.unusedSimpArgs false
set_option linter.unusedVariables false
section
namespace Go.Hs
variable {P:Program}
theorem Zlt {t:TypeId} (h:P.underlying t=some .bool) (a b:Bool):Zyf P .eql t (.bool a) (.bool b)=some (.bool (a==b))∧Zyf P .neq t (.bool a) (.bool b)=some (.bool (a != b)):=by
 constructor
 ·simp [Zyf,eqV,h]
 ·simp [Zyf,eqV,h,bne]
attribute [go_sem] bne_self_eq_false beq_self_eq_true
@[go_sem] theorem Zaw:(true != false)=true:=rfl
@[go_sem] theorem Zbw:(false != true)=true:=rfl
def andZ (k:IntKind) (a b:Int):Int:=k.wrap (BitVec.ofInt k.bits a &&& BitVec.ofInt k.bits b).toNat
def orZ (k:IntKind) (a b:Int):Int:=k.wrap (BitVec.ofInt k.bits a ||| BitVec.ofInt k.bits b).toNat
def xorZ (k:IntKind) (a b:Int):Int:=k.wrap (BitVec.ofInt k.bits a ^^^ BitVec.ofInt k.bits b).toNat
def shrZ (k:IntKind) (a b:Int):Int:=a.fdiv (2 ^ (min b.toNat k.bits))
section
variable (P) (t:TypeId) (k k':IntKind) (a b:Int)
@[go_sem] theorem binV_and:Zyf P .and t (.int k a) (.int k b)=some (.int k (andZ k a b)):=Z4b P t k a b .and (by simp) (by simp)
@[go_sem] theorem binV_or:Zyf P .or t (.int k a) (.int k b)=some (.int k (orZ k a b)):=Z4b P t k a b .or (by simp) (by simp)
@[go_sem] theorem binV_xor:Zyf P .xor t (.int k a) (.int k b)=some (.int k (xorZ k a b)):=Z4b P t k a b .xor (by simp) (by simp)
@[go_sem] theorem binV_shr:Zyf P .shr t (.int k a) (.int k' b)=if b<0 then none else some (.int k (shrZ k a b)):=by
 simp only [Zyf,Zlx,or_true,if_true,shrZ]
end
theorem Z7z {t:TypeId} (h:Z2v P t=true) (s:List UInt8) (k:IntKind) (n:Int):Zrh P t (.str s) (.int k n)=if 0≤n then (s[n.toNat]?).map fun b => .int .u8 b.toNat else none:=by
 unfold Z2v at h
 cases hu:P.underlying t with
 | none=>rw [hu] at h;simp at h
 | some d=>rw [hu] at h;cases d<;>simp at h;simp [Zrh,hu]
theorem Z9y {t:TypeId} (h:Z2v P t=true) (s:List UInt8) (lo hi:Option V):Z6f P t (.str s) lo hi none =
  slJ (Z9 0 lo) (Z9 s.length hi) fun i j=>if i≤j∧j≤s.length then some (.str ((s.drop i).take (j-i))) else none:=by
 unfold Z2v at h
 cases hu:P.underlying t with
 | none=>rw [hu] at h;simp at h
 | some d =>
  rw [hu] at h
  cases d<;>simp at h
  simp only [Z6f,hu,slJ]
  cases Z9 0 lo<;>cases Z9 s.length hi<;>rfl
@[go_sem] theorem strV_add (a b:List UInt8):strV .add a b=if ((a.length+b.length:Nat):Int) > IntKind.i64.max then none else some (.str (a++b)):=rfl
end Go.Hs
end
