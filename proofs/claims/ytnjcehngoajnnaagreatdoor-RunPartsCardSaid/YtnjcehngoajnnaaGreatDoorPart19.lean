/- Part 19 of the proof of a statement of seat YtnjcehngoajnnaaGreatDoor: HsSimp2. -/
import Derived.Test.YtnjcehngoajnnaaGreatDoorPart18
set_option linter.unusedSimpArgs false
set_option linter.unusedVariables false
section
namespace Go.Hs
variable {P:Program}
theorem Z5x {t:TypeId} (h:P.underlying t=some .bool) (a b:Bool):Zxh P .eql t (.bool a) (.bool b)=some (.bool (a==b))∧Zxh P .neq t (.bool a) (.bool b)=some (.bool (a != b)):=by
 constructor
 ·simp [Zxh,eqV,h]
 ·simp [Zxh,eqV,h,bne]
attribute [go_sem] bne_self_eq_false beq_self_eq_true
@[go_sem] theorem Zgq:(true != false)=true:=rfl
@[go_sem] theorem Zhq:(false != true)=true:=rfl
def andZ (k:IntKind) (a b:Int):Int:=k.wrap (BitVec.ofInt k.bits a &&& BitVec.ofInt k.bits b).toNat
def orZ (k:IntKind) (a b:Int):Int:=k.wrap (BitVec.ofInt k.bits a ||| BitVec.ofInt k.bits b).toNat
def xorZ (k:IntKind) (a b:Int):Int:=k.wrap (BitVec.ofInt k.bits a ^^^ BitVec.ofInt k.bits b).toNat
def shrZ (k:IntKind) (a b:Int):Int:=a.fdiv (2 ^ (min b.toNat k.bits))
section
variable (P) (t:TypeId) (k k':IntKind) (a b:Int)
@[go_sem] theorem binV_and:Zxh P .and t (.int k a) (.int k b)=some (.int k (andZ k a b)):=Z6c P t k a b .and (by simp) (by simp)
@[go_sem] theorem binV_or:Zxh P .or t (.int k a) (.int k b)=some (.int k (orZ k a b)):=Z6c P t k a b .or (by simp) (by simp)
@[go_sem] theorem binV_xor:Zxh P .xor t (.int k a) (.int k b)=some (.int k (xorZ k a b)):=Z6c P t k a b .xor (by simp) (by simp)
@[go_sem] theorem binV_shr:Zxh P .shr t (.int k a) (.int k' b)=if b<0 then none else some (.int k (shrZ k a b)):=by
 simp only [Zxh,Zj2,or_true,if_true,shrZ]
end
theorem Z74 {t:TypeId} (h:Z10 P t=true) (s:List UInt8) (k:IntKind) (n:Int):Z4j P t (.str s) (.int k n)=if 0≤n then (s[n.toNat]?).map fun b => .int .u8 b.toNat else none:=by
 unfold Z10 at h
 cases hu:P.underlying t with
 | none=>rw [hu] at h;simp at h
 | some d=>rw [hu] at h;cases d<;>simp at h;simp [Z4j,hu]
theorem Z53 {t:TypeId} (h:Z10 P t=true) (s:List UInt8) (lo hi:Option V):Zgg P t (.str s) lo hi none =
  slJ (Zma 0 lo) (Zma s.length hi) fun i j=>if i≤j∧j≤s.length then some (.str ((s.drop i).take (j-i))) else none:=by
 unfold Z10 at h
 cases hu:P.underlying t with
 | none=>rw [hu] at h;simp at h
 | some d =>
  rw [hu] at h
  cases d<;>simp at h
  simp only [Zgg,hu,slJ]
  cases Zma 0 lo<;>cases Zma s.length hi<;>rfl
@[go_sem] theorem strV_add (a b:List UInt8):strV .add a b=if ((a.length+b.length:Nat):Int) > IntKind.i64.max then none else some (.str (a++b)):=rfl
end Go.Hs
end
