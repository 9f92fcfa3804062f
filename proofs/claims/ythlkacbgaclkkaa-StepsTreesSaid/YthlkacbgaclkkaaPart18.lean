/- Part 18 of the proof of a statement of seat Ythlkacbgaclkkaa: HsSimp2. -/
import Derived.Test.YthlkacbgaclkkaaPart17
set_option linter.unusedSimpArgs false
set_option linter.unusedVariables false
section
/- More facts for runs by simp. -/
namespace Go.Hs
variable {P : Program}
theorem binV_bool {t : TypeId} (h : P.underlying t = some .bool) (a b : Bool) : binV P .eql t (.bool a) (.bool b) = some (.bool (a == b)) ∧ binV P .neq t (.bool a) (.bool b) = some (.bool (a != b)) := by
  constructor
  · simp [binV, eqV, h]
  · simp [binV, eqV, h, bne]
attribute [go_sem] bne_self_eq_false beq_self_eq_true
@[go_sem] theorem bool_bne_tf : (true != false) = true := rfl
@[go_sem] theorem bool_bne_ft : (false != true) = true := rfl
@[go_sem] theorem bool_beq_tf : (true == false) = false := rfl
@[go_sem] theorem bool_beq_ft : (false == true) = false := rfl
section
variable (P) (t : TypeId) (k k' : IntKind) (a b : Int)
@[go_sem] theorem binV_and : binV P .and t (.int k a) (.int k b) = some (.int k (k.wrap (BitVec.ofInt k.bits a &&& BitVec.ofInt k.bits b).toNat)) := binV_int P t k a b .and (by simp) (by simp)
@[go_sem] theorem binV_or : binV P .or t (.int k a) (.int k b) = some (.int k (k.wrap (BitVec.ofInt k.bits a ||| BitVec.ofInt k.bits b).toNat)) := binV_int P t k a b .or (by simp) (by simp)
@[go_sem] theorem binV_xor : binV P .xor t (.int k a) (.int k b) = some (.int k (k.wrap (BitVec.ofInt k.bits a ^^^ BitVec.ofInt k.bits b).toNat)) := binV_int P t k a b .xor (by simp) (by simp)
@[go_sem] theorem binV_shl : binV P .shl t (.int k a) (.int k' b) = if b < 0 then none else some (.int k (k.wrap (a * 2 ^ (min b.toNat k.bits)))) := by
  simp only [binV, shiftV, true_or, if_true]
@[go_sem] theorem binV_shr : binV P .shr t (.int k a) (.int k' b) = if b < 0 then none else some (.int k (a.fdiv (2 ^ (min b.toNat k.bits)))) := by
  simp only [binV, shiftV, or_true, if_true]
end
@[go_sem] theorem bits_u64 : IntKind.u64.bits = 64 := rfl
@[go_sem] theorem bits_i64 : IntKind.i64.bits = 64 := rfl
@[go_sem] theorem bits_u32 : IntKind.u32.bits = 32 := rfl
@[go_sem] theorem bits_u8 : IntKind.u8.bits = 8 := rfl
@[go_sem] theorem bits_i32 : IntKind.i32.bits = 32 := rfl
end Go.Hs
end
