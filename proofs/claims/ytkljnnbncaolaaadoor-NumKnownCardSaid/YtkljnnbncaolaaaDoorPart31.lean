/- Part 31 of the proof of a statement of seat YtkljnnbncaolaaaDoor: HsNumLaw HsNumBits HsDNumBase HsDNumRef1 HsDNumRef2 HsDNumRef3 HsDNumRef4 HsDNumRef5 HsDNumRef6 HsDNumRef7 HsDNumRef8 HsDNumSum HsDNumShelf HsNumParseLaw. -/
import Derived.Lib.ParseIntB
import Derived.Lib.ItoaNum
import Derived.Test.YtkljnnbncaolaaaDoorPart29
import Derived.Test.YtkljnnbncaolaaaDoorPart18
import Derived.Test.YtkljnnbncaolaaaDoorPart19
import Derived.Test.YtkljnnbncaolaaaDoorPart30
import Derived.Lib.Mul64
import Derived.Test.YtkljnnbncaolaaaDoorPart23
import Derived.Test.YtkljnnbncaolaaaDoorChecked
import Derived.Shelf.Strconv.ParseIntPublic10
import Derived.Shelf.Strconv.ErrVarParseInt
import Derived.Shelf.Strconv.Itoa4
import Derived.Shelf.Strings.Prefix
import Derived.Ground.NamesProg
import Derived.Lib.ParseIntBCases
import Derived.Lib.Strings
set_option linter.unusedSimpArgs false
set_option linter.unusedVariables false
section
/- Numbers as rows of decimal digits, the least first. Plain law: no program in sight. -/
namespace Go.Hs

def dgF : Nat → Nat → List Nat
  | 0, _ => []
  | f + 1, n => if n = 0 then [] else (n % 10) :: dgF f (n / 10)
/-- The digits of a number. -/
def dg (n : Nat) : List Nat := dgF n n
theorem dgF_eq : ∀ (f f' n : Nat), n ≤ f → n ≤ f' → dgF f n = dgF f' n
  | 0, f', n, h, _ => by
    have : n = 0 := by omega
    subst this
    cases f' <;> simp [dgF]
  | f + 1, 0, n, _, h => by
    have : n = 0 := by omega
    subst this
    simp [dgF]
  | f + 1, f' + 1, n, h, h' => by
    simp only [dgF]
    split
    · rfl
    · rw [dgF_eq f f' (n / 10) (by omega) (by omega)]
theorem dg_zero : dg 0 = [] := rfl
theorem dg_pos {n : Nat} (h : 0 < n) : dg n = (n % 10) :: dg (n / 10) := by
  obtain ⟨k, rfl⟩ : ∃ k, n = k + 1 := ⟨n - 1, by omega⟩
  show dgF (k + 1) (k + 1) = _
  rw [dgF, if_neg (by omega), dgF_eq k ((k + 1) / 10) _ (by omega) (Nat.le_refl _)]
  rfl
def val : List Nat → Nat
  | [] => 0
  | d :: r => d + 10 * val r
theorem val_app : ∀ (a b : List Nat), val (a ++ b) = val a + 10 ^ a.length * val b
  | [], b => by simp [val]
  | d :: a, b => by
    rw [List.cons_append, val, val_app a b, val, List.length_cons, Nat.pow_succ]
    rw [Nat.mul_add, ← Nat.mul_assoc, Nat.mul_comm 10 (10 ^ a.length)]
    omega
def Dig (l : List Nat) : Prop := ∀ d ∈ l, d < 10
theorem Dig.app {a b : List Nat} : Dig (a ++ b) ↔ Dig a ∧ Dig b := by
  constructor
  · exact fun h => ⟨fun d hd => h d (by simp [hd]), fun d hd => h d (by simp [hd])⟩
  · rintro ⟨h1, h2⟩ d hd
    rcases List.mem_append.1 hd with h | h
    · exact h1 d h
    · exact h2 d h
theorem Dig.one {d : Nat} (h : d < 10) : Dig [d] := by intro x hx; simp at hx; omega
theorem val_lt : ∀ {l : List Nat}, Dig l → val l < 10 ^ l.length
  | [], _ => by simp [val]
  | d :: r, h => by
    have h1 := val_lt (l := r) fun x hx => h x (by simp [hx])
    have h2 := h d (by simp)
    rw [val, List.length_cons, Nat.pow_succ]
    omega
theorem val_dg (n : Nat) : val (dg n) = n := by
  induction n using Nat.strongRecOn with
  | _ n ih =>
    rcases Nat.eq_zero_or_pos n with h | h
    · subst h; rfl
    · rw [dg_pos h, val, ih (n / 10) (by omega)]
      omega
theorem dig_dg (n : Nat) : Dig (dg n) := by
  induction n using Nat.strongRecOn with
  | _ n ih =>
    rcases Nat.eq_zero_or_pos n with h | h
    · subst h; intro d hd; simp [dg_zero] at hd
    · rw [dg_pos h]
      intro d hd
      rcases List.mem_cons.1 hd with rfl | hd
      · omega
      · exact ih (n / 10) (by omega) d hd
theorem dg_last (n : Nat) : ∀ d, (dg n).getLast? = some d → d ≠ 0 := by
  induction n using Nat.strongRecOn with
  | _ n ih =>
    intro d hd
    rcases Nat.eq_zero_or_pos n with h | h
    · subst h; simp [dg_zero] at hd
    · rw [dg_pos h] at hd
      rcases Nat.eq_zero_or_pos (n / 10) with h2 | h2
      · rw [h2, dg_zero] at hd
        simp at hd
        omega
      · have hne : dg (n / 10) ≠ [] := by rw [dg_pos h2]; simp
        rw [List.getLast?_cons_of_ne_nil hne] at hd
        exact ih (n / 10) (by omega) d hd
/-- Rows of digits without noughts ahead are told by their worth. -/
theorem dg_val : ∀ {l : List Nat}, Dig l → (∀ d, l.getLast? = some d → d ≠ 0) → dg (val l) = l
  | [], _, _ => rfl
  | d :: r, h, hl => by
    have hd := h d (by simp)
    have hr : Dig r := fun x hx => h x (by simp [hx])
    rcases hrn : r with _ | ⟨x, s⟩
    · subst hrn
      have := hl d (by simp)
      rw [val, val, dg_pos (by omega)]
      have e1 : (d + 10 * 0) % 10 = d := by omega
      have e2 : (d + 10 * 0) / 10 = 0 := by omega
      rw [e1, e2, dg_zero]
    · rw [← hrn]
      have hne : r ≠ [] := by rw [hrn]; simp
      have hl2 : ∀ y, r.getLast? = some y → y ≠ 0 := fun y hy => hl y (by rw [List.getLast?_cons_of_ne_nil hne]; exact hy)
      have ih := dg_val hr hl2
      have hp : 0 < val r := by
        rcases Nat.eq_zero_or_pos (val r) with h0 | h0
        · rw [h0, dg_zero] at ih; exact absurd ih.symm hne
        · exact h0
      rw [val, dg_pos (by omega)]
      have e1 : (d + 10 * val r) % 10 = d := by omega
      have e2 : (d + 10 * val r) / 10 = val r := by omega
      rw [e1, e2, ih]
/-- Without noughts ahead. -/
def trimL : Nat → List Nat → List Nat
  | 0, l => l
  | n + 1, l => if l.getLast? = some 0 then trimL n l.dropLast else l
theorem trim_val : ∀ (n : Nat) (l : List Nat), l.length ≤ n → Dig l → trimL n l = dg (val l)
  | 0, l, h, _ => by
    have : l = [] := List.length_eq_zero_iff.1 (by omega)
    subst this; rfl
  | n + 1, l, h, hd => by
    rw [trimL]
    split
    · rename_i h0
      have hne : l ≠ [] := by rintro rfl; simp at h0
      have e : l = l.dropLast ++ [0] := by
        have := List.dropLast_concat_getLast hne
        rw [List.getLast?_eq_some_getLast hne] at h0
        rw [Option.some.inj h0] at this
        exact this.symm
      have hv : val l = val l.dropLast := by
        conv => lhs; rw [e]
        rw [val_app]
        simp [val]
      rw [trim_val n l.dropLast (by rw [List.length_dropLast]; omega) (fun x hx => hd x (List.dropLast_subset _ hx)), hv]
    · rename_i h0
      rw [dg_val hd]
      rintro d hl rfl
      exact h0 hl
theorem dg_len {n k : Nat} (h : n < 10 ^ k) : (dg n).length ≤ k := by
  induction k generalizing n with
  | zero =>
    have : n = 0 := by simp at h; exact h
    subst this
    simp [dg_zero]
  | succ k ih =>
    rcases Nat.eq_zero_or_pos n with h0 | h0
    · subst h0; simp [dg_zero]
    · rw [dg_pos h0, List.length_cons]
      have := ih (n := n / 10) (by rw [Nat.pow_succ] at h; omega)
      omega
theorem dg_le {n : Nat} (h : 0 < n) : 10 ^ ((dg n).length - 1) ≤ n := by
  induction n using Nat.strongRecOn with
  | _ n ih =>
    rw [dg_pos h, List.length_cons]
    rcases Nat.eq_zero_or_pos (n / 10) with h0 | h0
    · rw [h0, dg_zero]; simp; omega
    · have := ih (n / 10) (by omega) h0
      have hl : 0 < (dg (n / 10)).length := by rw [dg_pos h0]; simp
      have e : (dg (n / 10)).length + 1 - 1 = ((dg (n / 10)).length - 1) + 1 := by omega
      rw [e, Nat.pow_succ]
      omega
theorem dg_len_lt {a b : Nat} (h : (dg a).length < (dg b).length) : a < b := by
  have h1 := val_lt (dig_dg a)
  rw [val_dg] at h1
  rcases Nat.eq_zero_or_pos b with h0 | h0
  · subst h0; simp [dg_zero] at h
  · have h2 := dg_le h0
    have h3 : 10 ^ (dg a).length ≤ 10 ^ ((dg b).length - 1) := Nat.pow_le_pow_right (by omega) (by omega)
    omega
theorem dg_ne {n : Nat} : dg n = [] ↔ n = 0 := by
  constructor
  · intro h; have := val_dg n; rw [h] at this; exact this.symm
  · rintro rfl; rfl

/-! ### Results -/
def fits (x : Int) : Bool := decide (-9223372036854775808 ≤ x ∧ x ≤ 9223372036854775807)
/-- A number, if it is one; else 0 and ErrOverflow. -/
def told (x : Int) : Int × Int := if fits x then (x, 0) else (0, 60)
def divR (a b : Int) : Int × Int := if b = 0 then (0, 61) else told (a.tdiv b)
def modR (a b : Int) : Int × Int := if b = 0 then (0, 61) else told (a.tmod b)
def sumR : Int → List Int → Int × Int
  | n, [] => (n, 0)
  | n, x :: r => match told (n + x) with
    | (m, 0) => sumR m r
    | (_, e) => (0, e)
def isDig (c : UInt8) : Bool := 48 ≤ c.toNat && c.toNat ≤ 57
def dval (c : UInt8) : Nat := c.toNat - 48
/-- The number that a text writes. -/
def parseR (s : List UInt8) : Int × Int :=
  let below := s.head? == some 45
  let t := if below then s.drop 1 else s
  if t = [] ∨ (t.head? = some 48 ∧ (t.length > 1 ∨ below = true)) ∨ t.all isDig = false then (0, 2)
  else told (if below then -(val (t.reverse.map dval) : Int) else val (t.reverse.map dval))
def putR (n : Int) : List UInt8 := Lib.itoa n
end Go.Hs
end

section
/- Bits of numbers of 64 bits: signs. Plain law. -/
namespace Go.Hs
theorem wrap_i64 (n : Int) : IntKind.i64.wrap n = (n + 9223372036854775808) % 18446744073709551616 - 9223372036854775808 := by
  unfold IntKind.wrap
  simp [IntKind.signed, IntKind.bits]
  omega
theorem wrap_u64 (n : Int) : IntKind.u64.wrap n = n % 18446744073709551616 := by
  unfold IntKind.wrap
  simp [IntKind.signed, IntKind.bits]
theorem wrap_in (n : Int) : InK .i64 (IntKind.i64.wrap n) := by
  rw [wrap_i64]
  show -9223372036854775808 ≤ _ ∧ _ ≤ 9223372036854775807
  omega
theorem inK_iff (n : Int) : InK .i64 n ↔ -9223372036854775808 ≤ n ∧ n ≤ 9223372036854775807 := Iff.rfl
theorem wrap_toNat (v : BitVec 64) : IntKind.i64.wrap v.toNat = v.toInt := by
  rw [wrap_i64, BitVec.toInt_eq_toNat_cond]
  have := v.isLt
  split <;> omega
theorem msb_ofInt {a : Int} (h : InK .i64 a) : (BitVec.ofInt 64 a).msb = decide (a < 0) := by
  rw [inK_iff] at h
  rw [BitVec.msb_eq_toInt, BitVec.toInt_ofInt]
  have : a.bmod (2 ^ 64) = a := by
    rw [Int.bmod_def]
    have : (2 : Nat) ^ 64 = 18446744073709551616 := by decide
    rw [this]
    omega
  rw [this]
theorem xor_neg {a b : Int} (ha : InK .i64 a) (hb : InK .i64 b) : IntKind.i64.wrap ((BitVec.ofInt 64 a ^^^ BitVec.ofInt 64 b).toNat) < 0 ↔ ¬ ((a < 0) ↔ (b < 0)) := by
  have h := BitVec.msb_eq_toInt (x := BitVec.ofInt 64 a ^^^ BitVec.ofInt 64 b)
  rw [BitVec.msb_xor, msb_ofInt ha, msb_ofInt hb] at h
  rw [wrap_toNat]
  generalize (BitVec.ofInt 64 a ^^^ BitVec.ofInt 64 b).toInt = z at *
  by_cases h1 : a < 0 <;> by_cases h2 : b < 0 <;> simp [h1, h2] at h ⊢ <;> omega
theorem and_neg {a b : Int} (ha : InK .i64 a) (hb : InK .i64 b) : IntKind.i64.wrap ((BitVec.ofInt 64 a &&& BitVec.ofInt 64 b).toNat) < 0 ↔ a < 0 ∧ b < 0 := by
  have h := BitVec.msb_eq_toInt (x := BitVec.ofInt 64 a &&& BitVec.ofInt 64 b)
  rw [BitVec.msb_and, msb_ofInt ha, msb_ofInt hb] at h
  rw [wrap_toNat]
  generalize (BitVec.ofInt 64 a &&& BitVec.ofInt 64 b).toInt = z at *
  by_cases h1 : a < 0 <;> by_cases h2 : b < 0 <;> simp [h1, h2] at h ⊢ <;> omega
/-- The sum's overflow, by signs. -/
theorem add_over {a b s : Int} (ha : InK .i64 a) (hb : InK .i64 b) (hs : s = IntKind.i64.wrap (a + b)) :
    andZ .i64 (xorZ .i64 a s) (xorZ .i64 b s) < 0 ↔ fits (a + b) = false := by
  show IntKind.i64.wrap ((BitVec.ofInt 64 (IntKind.i64.wrap ((BitVec.ofInt 64 a ^^^ BitVec.ofInt 64 s).toNat)) &&& BitVec.ofInt 64 (IntKind.i64.wrap ((BitVec.ofInt 64 b ^^^ BitVec.ofInt 64 s).toNat))).toNat) < 0 ↔ _
  have hsi : InK .i64 s := by rw [hs]; exact wrap_in _
  rw [and_neg (wrap_in _) (wrap_in _), xor_neg ha hsi, xor_neg hb hsi]
  rw [wrap_i64] at hs
  rw [inK_iff] at ha hb
  unfold fits
  rw [decide_eq_false_iff_not]
  omega
theorem sub_over {a b s : Int} (ha : InK .i64 a) (hb : InK .i64 b) (hs : s = IntKind.i64.wrap (a - b)) :
    andZ .i64 (xorZ .i64 a b) (xorZ .i64 a s) < 0 ↔ fits (a - b) = false := by
  show IntKind.i64.wrap ((BitVec.ofInt 64 (IntKind.i64.wrap ((BitVec.ofInt 64 a ^^^ BitVec.ofInt 64 b).toNat)) &&& BitVec.ofInt 64 (IntKind.i64.wrap ((BitVec.ofInt 64 a ^^^ BitVec.ofInt 64 s).toNat))).toNat) < 0 ↔ _
  have hsi : InK .i64 s := by rw [hs]; exact wrap_in _
  rw [and_neg (wrap_in _) (wrap_in _), xor_neg ha hsi, xor_neg ha hb]
  rw [wrap_i64] at hs
  rw [inK_iff] at ha hb
  unfold fits
  rw [decide_eq_false_iff_not]
  omega
theorem tdiv_abs (a b : Int) : a.tdiv b = if (decide (a < 0) != decide (b < 0)) = true then -((a.natAbs / b.natAbs : Nat) : Int) else ((a.natAbs / b.natAbs : Nat) : Int) := by
  cases a with
  | ofNat m => cases b with
    | ofNat n => simp [Int.tdiv]; omega
    | negSucc n => simp [Int.tdiv, Int.negSucc_lt_zero]
  | negSucc m => cases b with
    | ofNat n => simp [Int.tdiv, Int.negSucc_lt_zero]
    | negSucc n => simp [Int.tdiv, Int.negSucc_lt_zero]
theorem tmod_abs (a b : Int) : a.tmod b = if decide (a < 0) = true then -((a.natAbs % b.natAbs : Nat) : Int) else ((a.natAbs % b.natAbs : Nat) : Int) := by
  cases a with
  | ofNat m => cases b with
    | ofNat n => simp [Int.tmod]; omega
    | negSucc n => simp [Int.tmod]; omega
  | negSucc m => cases b with
    | ofNat n => simp [Int.tmod, Int.negSucc_lt_zero]
    | negSucc n => simp [Int.tmod, Int.negSucc_lt_zero]
theorem fits_iff (x : Int) : fits x = true ↔ InK .i64 x := by unfold fits; rw [decide_eq_true_iff]; rfl
theorem told_yes {x : Int} (h : fits x = true) : told x = (x, 0) := by rw [told, if_pos h]
theorem told_no {x : Int} (h : fits x = false) : told x = (0, 60) := by rw [told, h]; simp
end Go.Hs
end

section
namespace Go.Hs
open Go.Proofs
set_option maxRecDepth 10000
def encR (r : Int × Int) : V := .tuple [.int .i64 r.1, .int .i64 r.2]
theorem wu64 {n : Int} (h1 : 0 ≤ n) (h2 : n ≤ 18446744073709551615) : IntKind.u64.wrap n = n := by
  unfold IntKind.wrap
  simp [IntKind.signed, IntKind.bits]
  omega
/- num.size -/
theorem size_spec (G : Nat → V) (hG : GOk G) (a : Int) (ha : InK .i64 a) : Spec Tryd.prog G 37 [.int .i64 a] hNone (fun v _ => v = .int .u64 a.natAbs) := by
  obtain ⟨h1, h2⟩ := ha
  have h1 : -9223372036854775808 ≤ a := h1
  have h2 : a ≤ 9223372036854775807 := h2
  refine Spec.of_code' 0 10 [.tmp 2] Tryd.func37 rfl rfl rfl rfl fun X => ?_
  refine AW.seq_k fun K hK => AW.region (by kernel_rfl) ?_
  simp -implicitDefEqProofs only [go_sem, seval, ↓reduceIte]
  refine hK _ ?_
  clear hK K
  refine AW.seq_k fun K1 hK1 => ?_
  refine AW.seq_k fun K hK => AW.region (by kernel_rfl) ?_
  simp -implicitDefEqProofs only [go_sem, seval, ↓reduceIte]
  refine hK _ ?_
  clear hK K
  refine AW.condS (by simp -implicitDefEqProofs only [go_sem, seval, ↓reduceIte]; rfl) (fun h2 => ?_) (fun h2 => ?_)
  · have h3 : a < 0 := by simpa using h2
    refine AW.seq_k fun K hK => AW.region (by kernel_rfl) ?_
    simp -implicitDefEqProofs only [go_sem, seval, ↓reduceIte]
    refine hK _ ?_
    clear hK K
    refine AW.ret ?_
    simp -implicitDefEqProofs only [go_sem, seval, ↓reduceIte]
    refine endK_some ?_
    refine congrArg _ ?_
    rw [wrap_u64, wrap_u64]
    omega
  · have h3 : ¬ a < 0 := by simpa using h2
    refine AW.skip ?_
    simp -implicitDefEqProofs only [go_sem, seval, ↓reduceIte]
    refine hK1 _ ?_
    refine AW.seq_k fun K hK => AW.region (by kernel_rfl) ?_
    simp -implicitDefEqProofs only [go_sem, seval, ↓reduceIte]
    refine hK _ ?_
    clear hK K
    refine AW.ret ?_
    simp -implicitDefEqProofs only [go_sem, seval, ↓reduceIte]
    refine endK_some ?_
    refine congrArg _ ?_
    rw [wrap_u64]
    omega
/- num.signed -/
theorem signed_spec (G : Nat → V) (hG : GOk G) (n : Nat) (below : Bool) (hn : n < 18446744073709551616) : Spec Tryd.prog G 38 [.int .u64 n, .bool below] hNone (fun v _ => v = encR (told (if below then -(n : Int) else n))) := by
  refine Spec.of_code' 0 24 [.tmp 4, .tmp 5] Tryd.func38 rfl rfl rfl rfl fun X => ?_
  refine AW.seq_k fun K hK => AW.region (by kernel_rfl) ?_
  simp -implicitDefEqProofs only [go_sem, seval, ↓reduceIte]
  refine hK _ ?_
  clear hK K
  refine AW.seq_k fun K1 hK1 => ?_
  refine AW.block ?_
  cases below with
  | true =>
    refine AW.seq_k fun K hK => AW.region (by kernel_rfl) ?_
    simp -implicitDefEqProofs only [go_sem, seval, ↓reduceIte]
    refine hK _ ?_
    clear hK K
    refine AW.condS (by simp -implicitDefEqProofs only [go_sem, seval, ↓reduceIte]; rfl) (fun h2 => ?_) (fun h2 => ?_)
    · have h3 : n ≤ 9223372036854775808 := by simp at h2; omega
      refine AW.seq_k fun K hK => AW.region (by kernel_rfl) ?_
      simp -implicitDefEqProofs only [go_sem, seval, ↓reduceIte]
      refine hK _ ?_
      clear hK K
      refine AW.ret ?_
      simp -implicitDefEqProofs only [go_sem, seval, ↓reduceIte]
      refine endK_some ?_
      have hf : fits (-(n : Int)) = true := by unfold fits; rw [decide_eq_true_iff]; omega
      rw [told_yes hf]
      refine congrArg V.tuple ?_
      simp only [List.cons.injEq, V.int.injEq, true_and, and_true]
      rw [wrap_u64, wrap_i64]
      omega
    · have h3 : ¬ n ≤ 9223372036854775808 := by simp at h2; omega
      refine AW.seq_k fun K hK => AW.region (by kernel_rfl) ?_
      simp -implicitDefEqProofs only [go_sem, seval, ↓reduceIte]
      refine hK _ ?_
      clear hK K
      refine AW.condS (by simp -implicitDefEqProofs only [go_sem, seval, ↓reduceIte]; rfl) (fun h4 => ?_) (fun h4 => ?_)
      · simp at h4
      · refine AW.skip ?_
        simp -implicitDefEqProofs only [go_sem, seval, ↓reduceIte]
        refine hK1 _ ?_
        refine AW.seq_k fun K hK => AW.region (by kernel_rfl) ?_
        simp -implicitDefEqProofs only [go_sem, seval, ↓reduceIte]
        refine hK _ ?_
        clear hK K
        refine AW.ret ?_
        simp -implicitDefEqProofs only [go_sem, seval, ↓reduceIte]
        refine endK_some ?_
        have hf : fits (-(n : Int)) = false := by unfold fits; rw [decide_eq_false_iff_not]; omega
        rw [told_no hf]
        rfl
  | false =>
    refine AW.seq_k fun K hK => AW.region (by kernel_rfl) ?_
    simp -implicitDefEqProofs only [go_sem, seval, ↓reduceIte]
    refine hK _ ?_
    clear hK K
    refine AW.condS (by simp -implicitDefEqProofs only [go_sem, seval, ↓reduceIte]; rfl) (fun h2 => ?_) (fun h2 => ?_)
    · simp at h2
    · refine AW.seq_k fun K hK => AW.region (by kernel_rfl) ?_
      simp -implicitDefEqProofs only [go_sem, seval, ↓reduceIte]
      refine hK _ ?_
      clear hK K
      refine AW.condS (by simp -implicitDefEqProofs only [go_sem, seval, ↓reduceIte]; rfl) (fun h4 => ?_) (fun h4 => ?_)
      · have h3 : n ≤ 9223372036854775807 := by simp at h4; omega
        refine AW.seq_k fun K hK => AW.region (by kernel_rfl) ?_
        simp -implicitDefEqProofs only [go_sem, seval, ↓reduceIte]
        refine hK _ ?_
        clear hK K
        refine AW.ret ?_
        simp -implicitDefEqProofs only [go_sem, seval, ↓reduceIte]
        refine endK_some ?_
        have hf : fits (n : Int) = true := by unfold fits; rw [decide_eq_true_iff]; omega
        rw [told_yes hf]
        refine congrArg V.tuple ?_
        simp only [List.cons.injEq, V.int.injEq, true_and, and_true]
        rw [wrap_i64]
        omega
      · have h3 : ¬ n ≤ 9223372036854775807 := by simp at h4; omega
        refine AW.skip ?_
        simp -implicitDefEqProofs only [go_sem, seval, ↓reduceIte]
        refine hK1 _ ?_
        refine AW.seq_k fun K hK => AW.region (by kernel_rfl) ?_
        simp -implicitDefEqProofs only [go_sem, seval, ↓reduceIte]
        refine hK _ ?_
        clear hK K
        refine AW.ret ?_
        simp -implicitDefEqProofs only [go_sem, seval, ↓reduceIte]
        refine endK_some ?_
        have hf : fits (n : Int) = false := by unfold fits; rw [decide_eq_false_iff_not]; omega
        rw [told_no hf]
        rfl
/- num.Add -/
theorem nAdd_spec (G : Nat → V) (hG : GOk G) (a b : Int) (ha : InK .i64 a) (hb : InK .i64 b) : Spec Tryd.prog G 15 [.int .i64 a, .int .i64 b] hNone (fun v _ => v = encR (told (a + b))) := by
  refine Spec.of_code' 0 19 [.tmp 4, .tmp 5] Tryd.func15 rfl rfl rfl rfl fun X => ?_
  refine AW.seq_k fun K hK => AW.region (by kernel_rfl) ?_
  simp -implicitDefEqProofs only [go_sem, seval, ↓reduceIte]
  refine hK _ ?_
  clear hK K
  refine AW.seq_k fun K hK => AW.region (by kernel_rfl) ?_
  simp -implicitDefEqProofs only [go_sem, seval, ↓reduceIte]
  refine hK _ ?_
  clear hK K
  refine AW.seq_k fun K1 hK1 => ?_
  refine AW.seq_k fun K hK => AW.region (by kernel_rfl) ?_
  simp -implicitDefEqProofs only [go_sem, seval, ↓reduceIte]
  refine hK _ ?_
  clear hK K
  have key := add_over ha hb rfl
  refine AW.condS (by simp -implicitDefEqProofs only [go_sem, seval, ↓reduceIte]; rfl) (fun h2 => ?_) (fun h2 => ?_)
  · have h3 := key.1 (of_decide_eq_true h2)
    refine AW.seq_k fun K hK => AW.region (by kernel_rfl) ?_
    simp -implicitDefEqProofs only [go_sem, seval, ↓reduceIte]
    refine hK _ ?_
    clear hK K
    refine AW.ret ?_
    simp -implicitDefEqProofs only [go_sem, seval, ↓reduceIte]
    refine endK_some ?_
    rw [told_no h3]
    rfl
  · have h3 : fits (a + b) = true := by
      have := mt key.2 (of_decide_eq_false h2)
      simpa using this
    refine AW.skip ?_
    simp -implicitDefEqProofs only [go_sem, seval, ↓reduceIte]
    refine hK1 _ ?_
    refine AW.seq_k fun K hK => AW.region (by kernel_rfl) ?_
    simp -implicitDefEqProofs only [go_sem, seval, ↓reduceIte]
    refine hK _ ?_
    clear hK K
    refine AW.ret ?_
    simp -implicitDefEqProofs only [go_sem, seval, ↓reduceIte]
    refine endK_some ?_
    rw [told_yes h3, w64 ((fits_iff _).1 h3).1 ((fits_iff _).1 h3).2]
    rfl
/- num.Sub -/
theorem nSub_spec (G : Nat → V) (hG : GOk G) (a b : Int) (ha : InK .i64 a) (hb : InK .i64 b) : Spec Tryd.prog G 17 [.int .i64 a, .int .i64 b] hNone (fun v _ => v = encR (told (a - b))) := by
  refine Spec.of_code' 0 19 [.tmp 4, .tmp 5] Tryd.func17 rfl rfl rfl rfl fun X => ?_
  refine AW.seq_k fun K hK => AW.region (by kernel_rfl) ?_
  simp -implicitDefEqProofs only [go_sem, seval, ↓reduceIte]
  refine hK _ ?_
  clear hK K
  refine AW.seq_k fun K hK => AW.region (by kernel_rfl) ?_
  simp -implicitDefEqProofs only [go_sem, seval, ↓reduceIte]
  refine hK _ ?_
  clear hK K
  refine AW.seq_k fun K1 hK1 => ?_
  refine AW.seq_k fun K hK => AW.region (by kernel_rfl) ?_
  simp -implicitDefEqProofs only [go_sem, seval, ↓reduceIte]
  refine hK _ ?_
  clear hK K
  have key := sub_over ha hb rfl
  refine AW.condS (by simp -implicitDefEqProofs only [go_sem, seval, ↓reduceIte]; rfl) (fun h2 => ?_) (fun h2 => ?_)
  · have h3 := key.1 (of_decide_eq_true h2)
    refine AW.seq_k fun K hK => AW.region (by kernel_rfl) ?_
    simp -implicitDefEqProofs only [go_sem, seval, ↓reduceIte]
    refine hK _ ?_
    clear hK K
    refine AW.ret ?_
    simp -implicitDefEqProofs only [go_sem, seval, ↓reduceIte]
    refine endK_some ?_
    rw [told_no h3]
    rfl
  · have h3 : fits (a - b) = true := by
      have := mt key.2 (of_decide_eq_false h2)
      simpa using this
    refine AW.skip ?_
    simp -implicitDefEqProofs only [go_sem, seval, ↓reduceIte]
    refine hK1 _ ?_
    refine AW.seq_k fun K hK => AW.region (by kernel_rfl) ?_
    simp -implicitDefEqProofs only [go_sem, seval, ↓reduceIte]
    refine hK _ ?_
    clear hK K
    refine AW.ret ?_
    simp -implicitDefEqProofs only [go_sem, seval, ↓reduceIte]
    refine endK_some ?_
    rw [told_yes h3, w64 ((fits_iff _).1 h3).1 ((fits_iff _).1 h3).2]
    rfl
/- num.Neg -/
theorem nNeg_spec (G : Nat → V) (hG : GOk G) (a : Int) (ha : InK .i64 a) : Spec Tryd.prog G 25 [.int .i64 a] hNone (fun v _ => v = encR (told (-a))) := by
  refine Spec.of_code' 0 8 [.tmp 2, .tmp 3] Tryd.func25 rfl rfl rfl rfl fun X => ?_
  refine AW.seq_k fun K hK => AW.region (by kernel_rfl) ?_
  simp -implicitDefEqProofs only [go_sem, seval, ↓reduceIte]
  refine hK _ ?_
  clear hK K
  refine AW.seq_k fun K hK => AW.region (by kernel_rfl) ?_
  simp -implicitDefEqProofs only [go_sem, seval, ↓reduceIte]
  refine CallA.pure hG (by kernel_rfl) ?_
  simp -implicitDefEqProofs only [go_sem, seval, ↓reduceIte]
  refine (nSub_spec G hG 0 a ((inK_iff 0).2 (by decide)) ha).mono ?_
  rintro _ _ rfl
  rw [Int.zero_sub]
  simp -implicitDefEqProofs only [go_sem, seval, ↓reduceIte, encR]
  refine hK _ ?_
  clear hK K
  refine AW.ret ?_
  simp -implicitDefEqProofs only [go_sem, seval, ↓reduceIte]
  refine endK_some ?_
  rfl
theorem and_mask {n : Nat} (h : n < 18446744073709551616) : andZ .u64 n 4294967295 = ((n % 4294967296 : Nat) : Int) := by
  show IntKind.u64.wrap ((BitVec.ofInt 64 (n : Int) &&& BitVec.ofInt 64 4294967295).toNat) = _
  have e : (BitVec.ofInt 64 (n : Int) &&& BitVec.ofInt 64 4294967295).toNat = n % 4294967296 := by
    rw [BitVec.toNat_and]
    have e1 : (BitVec.ofInt 64 (n : Int)).toNat = n := by
      rw [BitVec.toNat_ofInt]
      omega
    have e2 : (BitVec.ofInt 64 4294967295).toNat = 2 ^ 32 - 1 := by decide
    rw [e1, e2, Nat.and_two_pow_sub_one_eq_mod]
  rw [e, wrap_u64]
  omega
theorem shr32 (n : Nat) : shrZ .u64 n 32 = ((n / 4294967296 : Nat) : Int) := by
  show (n : Int).fdiv (2 ^ min (32 : Int).toNat 64) = _
  have : (2 : Int) ^ min (32 : Int).toNat 64 = 4294967296 := by decide
  rw [this, Int.fdiv_eq_ediv_of_nonneg _ (by decide)]
  omega
theorem wmul {a b : Nat} (h : a * b < 18446744073709551616) : IntKind.u64.wrap ((a : Int) * b) = ((a * b : Nat) : Int) := by
  rw [wrap_u64, ← Int.natCast_mul]
  omega
theorem wadd {a b : Nat} (h : a + b < 18446744073709551616) : IntKind.u64.wrap ((a : Int) + b) = ((a + b : Nat) : Int) := by
  rw [wrap_u64]
  omega
/- bits.Mul64 -/
theorem mul64_spec (G : Nat → V) (hG : GOk G) (x y : Nat) (hx : x < 18446744073709551616) (hy : y < 18446744073709551616) :
    Spec Tryd.prog G 36 [.int .u64 x, .int .u64 y] hNone (fun v _ => v = .tuple [.int .u64 (x * y / 18446744073709551616 : Nat), .int .u64 (x * y % 18446744073709551616 : Nat)]) := by
  obtain ⟨h1, h2, h3, h4⟩ := Lib.mul64_hi x y hx hy
  have hq : x * y / 18446744073709551616 < 18446744073709551616 := Nat.div_lt_of_lt_mul (Nat.mul_lt_mul'' hx hy)
  refine Spec.of_code' 0 51 [.tmp 4, .tmp 5] Tryd.func36 rfl rfl rfl rfl fun X => ?_
  refine AW.seq_k fun K hK => AW.region (by kernel_rfl) ?_
  simp -implicitDefEqProofs only [go_sem, seval, ↓reduceIte]
  refine hK _ ?_
  clear hK K
  refine AW.seq_k fun K hK => AW.region (by kernel_rfl) ?_
  simp -implicitDefEqProofs only [go_sem, seval, ↓reduceIte]
  refine hK _ ?_
  clear hK K
  rw [and_mask hx]
  refine AW.seq_k fun K hK => AW.region (by kernel_rfl) ?_
  simp -implicitDefEqProofs only [go_sem, seval, ↓reduceIte]
  refine hK _ ?_
  clear hK K
  rw [shr32]
  refine AW.seq_k fun K hK => AW.region (by kernel_rfl) ?_
  simp -implicitDefEqProofs only [go_sem, seval, ↓reduceIte]
  refine hK _ ?_
  clear hK K
  rw [and_mask hy]
  refine AW.seq_k fun K hK => AW.region (by kernel_rfl) ?_
  simp -implicitDefEqProofs only [go_sem, seval, ↓reduceIte]
  refine hK _ ?_
  clear hK K
  rw [shr32]
  have ha := Lib.half_mul_le (a := x / 4294967296) (b := y / 4294967296) (by omega) (by omega)
  have hb := Lib.half_mul_le (a := x / 4294967296) (b := y % 4294967296) (by omega) (by omega)
  have hc := Lib.half_mul_le (a := x % 4294967296) (b := y / 4294967296) (by omega) (by omega)
  have hd := Lib.half_mul_le (a := x % 4294967296) (b := y % 4294967296) (by omega) (by omega)
  refine AW.seq_k fun K hK => AW.region (by kernel_rfl) ?_
  simp -implicitDefEqProofs only [go_sem, seval, ↓reduceIte]
  refine hK _ ?_
  clear hK K
  rw [wmul h1]
  refine AW.seq_k fun K hK => AW.region (by kernel_rfl) ?_
  simp -implicitDefEqProofs only [go_sem, seval, ↓reduceIte]
  refine hK _ ?_
  clear hK K
  rw [shr32, wmul (by omega), wadd h2]
  generalize (x / 4294967296) * (y % 4294967296) + (x % 4294967296) * (y % 4294967296) / 4294967296 = t at *
  refine AW.seq_k fun K hK => AW.region (by kernel_rfl) ?_
  simp -implicitDefEqProofs only [go_sem, seval, ↓reduceIte]
  refine hK _ ?_
  clear hK K
  rw [and_mask h2]
  refine AW.seq_k fun K hK => AW.region (by kernel_rfl) ?_
  simp -implicitDefEqProofs only [go_sem, seval, ↓reduceIte]
  refine hK _ ?_
  clear hK K
  rw [shr32]
  refine AW.seq_k fun K hK => AW.region (by kernel_rfl) ?_
  simp -implicitDefEqProofs only [go_sem, seval, ↓reduceIte]
  refine hK _ ?_
  clear hK K
  rw [wmul (by omega), wadd h3]
  generalize t % 4294967296 + x % 4294967296 * (y / 4294967296) = w1 at *
  refine AW.seq_k fun K hK => AW.region (by kernel_rfl) ?_
  simp -implicitDefEqProofs only [go_sem, seval, ↓reduceIte]
  refine hK _ ?_
  clear hK K
  rw [wmul (by omega), wadd (by omega), shr32, wadd (by omega), h4]
  refine AW.seq_k fun K hK => AW.region (by kernel_rfl) ?_
  simp -implicitDefEqProofs only [go_sem, seval, ↓reduceIte]
  refine hK _ ?_
  clear hK K
  refine AW.ret ?_
  simp -implicitDefEqProofs only [go_sem, seval, ↓reduceIte]
  refine endK_some ?_
  refine congrArg V.tuple ?_
  simp only [List.cons.injEq, V.int.injEq, true_and, and_true]
  rw [wrap_u64, ← Int.natCast_mul]
  omega
/- num.Mul -/
theorem nMul_spec (G : Nat → V) (hG : GOk G) (a b : Int) (ha : InK .i64 a) (hb : InK .i64 b) : Spec Tryd.prog G 19 [.int .i64 a, .int .i64 b] hNone (fun v _ => v = encR (told (a * b))) := by
  have ha' := (inK_iff a).1 ha
  have hb' := (inK_iff b).1 hb
  refine Spec.of_code' 0 27 [.tmp 4, .tmp 5] Tryd.func19 rfl rfl rfl rfl fun X => ?_
  refine AW.seq_k fun K hK => AW.region (by kernel_rfl) ?_
  simp -implicitDefEqProofs only [go_sem, seval, ↓reduceIte]
  refine hK _ ?_
  clear hK K
  refine AW.seq_k fun K hK => AW.region (by kernel_rfl) ?_
  simp -implicitDefEqProofs only [go_sem, seval, ↓reduceIte]
  refine CallA.pure hG (by kernel_rfl) ?_
  simp -implicitDefEqProofs only [go_sem, seval, ↓reduceIte]
  refine (size_spec G hG a ha).mono ?_
  rintro _ _ rfl
  simp -implicitDefEqProofs only [go_sem, seval, ↓reduceIte]
  refine CallA.pure hG (by kernel_rfl) ?_
  simp -implicitDefEqProofs only [go_sem, seval, ↓reduceIte]
  refine (size_spec G hG b hb).mono ?_
  rintro _ _ rfl
  simp -implicitDefEqProofs only [go_sem, seval, ↓reduceIte]
  refine CallA.pure hG (by kernel_rfl) ?_
  simp -implicitDefEqProofs only [go_sem, seval, ↓reduceIte]
  refine (mul64_spec G hG a.natAbs b.natAbs (by omega) (by omega)).mono ?_
  rintro _ _ rfl
  simp -implicitDefEqProofs only [go_sem, seval, ↓reduceIte]
  refine hK _ ?_
  clear hK K
  refine AW.seq_k fun K1 hK1 => ?_
  refine AW.seq_k fun K hK => AW.region (by kernel_rfl) ?_
  simp -implicitDefEqProofs only [go_sem, seval, ↓reduceIte]
  refine hK _ ?_
  clear hK K
  have hab : (a * b).natAbs = a.natAbs * b.natAbs := Int.natAbs_mul a b
  refine AW.condS (by simp -implicitDefEqProofs only [go_sem, seval, ↓reduceIte]; rfl) (fun h2 => ?_) (fun h2 => ?_)
  · have h3 : a.natAbs * b.natAbs ≥ 18446744073709551616 := by
      have : ¬ (a.natAbs * b.natAbs) / 18446744073709551616 = 0 := by
        intro e
        rw [e] at h2
        simp at h2
      omega
    refine AW.seq_k fun K hK => AW.region (by kernel_rfl) ?_
    simp -implicitDefEqProofs only [go_sem, seval, ↓reduceIte]
    refine hK _ ?_
    clear hK K
    refine AW.ret ?_
    simp -implicitDefEqProofs only [go_sem, seval, ↓reduceIte]
    refine endK_some ?_
    have hf : fits (a * b) = false := by unfold fits; rw [decide_eq_false_iff_not]; omega
    rw [told_no hf]
    rfl
  · have h3 : a.natAbs * b.natAbs < 18446744073709551616 := by
      have : (a.natAbs * b.natAbs) / 18446744073709551616 = 0 := by
        generalize a.natAbs * b.natAbs / 18446744073709551616 = q at h2
        have : (q : Int) = 0 := by simpa using h2
        omega
      omega
    refine AW.skip ?_
    simp -implicitDefEqProofs only [go_sem, seval, ↓reduceIte]
    refine hK1 _ ?_
    refine AW.seq_k fun K hK => AW.region (by kernel_rfl) ?_
    simp -implicitDefEqProofs only [go_sem, seval, ↓reduceIte]
    refine CallA.pure hG (by kernel_rfl) ?_
    simp -implicitDefEqProofs only [go_sem, seval, ↓reduceIte]
    refine (signed_spec G hG _ _ (Nat.mod_lt _ (by omega))).mono ?_
    rintro _ _ rfl
    rw [Nat.mod_eq_of_lt h3]
    have key : (if (decide (a < 0) != decide (b < 0)) = true then -((a.natAbs * b.natAbs : Nat) : Int) else ((a.natAbs * b.natAbs : Nat) : Int)) = a * b := by
      rw [← hab]
      by_cases h4 : a < 0 <;> by_cases h5 : b < 0 <;> simp only [h4, h5, decide_true, decide_false, bne_self_eq_false, bool_bne_tf, bool_bne_ft, if_true, Bool.false_eq_true, if_false]
      · have := Int.mul_pos_of_neg_of_neg h4 h5; omega
      · have := Int.mul_nonpos_of_nonpos_of_nonneg (Int.le_of_lt h4) (Int.not_lt.1 h5); omega
      · have := Int.mul_nonpos_of_nonneg_of_nonpos (Int.not_lt.1 h4) (Int.le_of_lt h5); omega
      · have := Int.mul_nonneg (Int.not_lt.1 h4) (Int.not_lt.1 h5); omega
    rw [key]
    simp -implicitDefEqProofs only [go_sem, seval, ↓reduceIte, encR]
    refine hK _ ?_
    clear hK K
    refine AW.ret ?_
    simp -implicitDefEqProofs only [go_sem, seval, ↓reduceIte]
    refine endK_some ?_
    rfl
/- num.Div -/
theorem nDiv_spec (G : Nat → V) (hG : GOk G) (a b : Int) (ha : InK .i64 a) (hb : InK .i64 b) : Spec Tryd.prog G 21 [.int .i64 a, .int .i64 b] hNone (fun v _ => v = encR (divR a b)) := by
  have ha' := (inK_iff a).1 ha
  have hb' := (inK_iff b).1 hb
  refine Spec.of_code' 0 21 [.tmp 4, .tmp 5] Tryd.func21 rfl rfl rfl rfl fun X => ?_
  refine AW.seq_k fun K hK => AW.region (by kernel_rfl) ?_
  simp -implicitDefEqProofs only [go_sem, seval, ↓reduceIte]
  refine hK _ ?_
  clear hK K
  refine AW.seq_k fun K1 hK1 => ?_
  refine AW.seq_k fun K hK => AW.region (by kernel_rfl) ?_
  simp -implicitDefEqProofs only [go_sem, seval, ↓reduceIte]
  refine hK _ ?_
  clear hK K
  refine AW.condS (by simp -implicitDefEqProofs only [go_sem, seval, ↓reduceIte]; rfl) (fun h2 => ?_) (fun h2 => ?_)
  · have h3 : b = 0 := by simpa using h2
    refine AW.seq_k fun K hK => AW.region (by kernel_rfl) ?_
    simp -implicitDefEqProofs only [go_sem, seval, ↓reduceIte]
    refine hK _ ?_
    clear hK K
    refine AW.ret ?_
    simp -implicitDefEqProofs only [go_sem, seval, ↓reduceIte]
    refine endK_some ?_
    rw [divR, if_pos h3]
    rfl
  · have h3 : ¬ b = 0 := by simpa using h2
    refine AW.skip ?_
    simp -implicitDefEqProofs only [go_sem, seval, ↓reduceIte]
    refine hK1 _ ?_
    refine AW.seq_k fun K hK => AW.region (by kernel_rfl) ?_
    simp -implicitDefEqProofs only [go_sem, seval, ↓reduceIte]
    refine CallA.pure hG (by kernel_rfl) ?_
    simp -implicitDefEqProofs only [go_sem, seval, ↓reduceIte]
    refine (size_spec G hG a ha).mono ?_
    rintro _ _ rfl
    simp -implicitDefEqProofs only [go_sem, seval, ↓reduceIte]
    refine CallA.pure hG (by kernel_rfl) ?_
    simp -implicitDefEqProofs only [go_sem, seval, ↓reduceIte]
    refine (size_spec G hG b hb).mono ?_
    rintro _ _ rfl
    have hz : ¬ ((b.natAbs : Nat) : Int) = 0 := by omega
    have hqd : (a.natAbs : Int).tdiv (b.natAbs : Int) = ((a.natAbs / b.natAbs : Nat) : Int) := by rw [Int.tdiv_eq_ediv_of_nonneg (by omega)]; rfl
    have hql : a.natAbs / b.natAbs ≤ a.natAbs := Nat.div_le_self _ _
    have hqw : IntKind.u64.wrap ((a.natAbs / b.natAbs : Nat) : Int) = ((a.natAbs / b.natAbs : Nat) : Int) := by
      generalize a.natAbs / b.natAbs = q at hql
      rw [wrap_u64]
      omega
    simp -implicitDefEqProofs only [go_sem, seval, ↓reduceIte, hz, hqd, hqw]
    refine CallA.pure hG (by kernel_rfl) ?_
    simp -implicitDefEqProofs only [go_sem, seval, ↓reduceIte]
    refine (signed_spec G hG _ _ (by omega)).mono ?_
    rintro _ _ rfl
    have key : (if (decide (a < 0) != decide (b < 0)) = true then -((a.natAbs / b.natAbs : Nat) : Int) else ((a.natAbs / b.natAbs : Nat) : Int)) = a.tdiv b := by
      rw [tdiv_abs]
    rw [key]
    simp -implicitDefEqProofs only [go_sem, seval, ↓reduceIte, encR]
    refine hK _ ?_
    clear hK K
    refine AW.ret ?_
    simp -implicitDefEqProofs only [go_sem, seval, ↓reduceIte]
    refine endK_some ?_
    rw [divR, if_neg h3]
    rfl
/- num.Mod -/
theorem nMod_spec (G : Nat → V) (hG : GOk G) (a b : Int) (ha : InK .i64 a) (hb : InK .i64 b) : Spec Tryd.prog G 23 [.int .i64 a, .int .i64 b] hNone (fun v _ => v = encR (modR a b)) := by
  have ha' := (inK_iff a).1 ha
  have hb' := (inK_iff b).1 hb
  refine Spec.of_code' 0 18 [.tmp 4, .tmp 5] Tryd.func23 rfl rfl rfl rfl fun X => ?_
  refine AW.seq_k fun K hK => AW.region (by kernel_rfl) ?_
  simp -implicitDefEqProofs only [go_sem, seval, ↓reduceIte]
  refine hK _ ?_
  clear hK K
  refine AW.seq_k fun K1 hK1 => ?_
  refine AW.seq_k fun K hK => AW.region (by kernel_rfl) ?_
  simp -implicitDefEqProofs only [go_sem, seval, ↓reduceIte]
  refine hK _ ?_
  clear hK K
  refine AW.condS (by simp -implicitDefEqProofs only [go_sem, seval, ↓reduceIte]; rfl) (fun h2 => ?_) (fun h2 => ?_)
  · have h3 : b = 0 := by simpa using h2
    refine AW.seq_k fun K hK => AW.region (by kernel_rfl) ?_
    simp -implicitDefEqProofs only [go_sem, seval, ↓reduceIte]
    refine hK _ ?_
    clear hK K
    refine AW.ret ?_
    simp -implicitDefEqProofs only [go_sem, seval, ↓reduceIte]
    refine endK_some ?_
    rw [modR, if_pos h3]
    rfl
  · have h3 : ¬ b = 0 := by simpa using h2
    refine AW.skip ?_
    simp -implicitDefEqProofs only [go_sem, seval, ↓reduceIte]
    refine hK1 _ ?_
    refine AW.seq_k fun K hK => AW.region (by kernel_rfl) ?_
    simp -implicitDefEqProofs only [go_sem, seval, ↓reduceIte]
    refine CallA.pure hG (by kernel_rfl) ?_
    simp -implicitDefEqProofs only [go_sem, seval, ↓reduceIte]
    refine (size_spec G hG a ha).mono ?_
    rintro _ _ rfl
    simp -implicitDefEqProofs only [go_sem, seval, ↓reduceIte]
    refine CallA.pure hG (by kernel_rfl) ?_
    simp -implicitDefEqProofs only [go_sem, seval, ↓reduceIte]
    refine (size_spec G hG b hb).mono ?_
    rintro _ _ rfl
    have hz : ¬ ((b.natAbs : Nat) : Int) = 0 := by omega
    have hqd : (a.natAbs : Int).tmod (b.natAbs : Int) = ((a.natAbs % b.natAbs : Nat) : Int) := by rw [Int.tmod_eq_emod_of_nonneg (by omega)]; rfl
    have hql : a.natAbs % b.natAbs ≤ a.natAbs := Nat.mod_le _ _
    simp -implicitDefEqProofs only [go_sem, seval, ↓reduceIte, hz, hqd]
    refine CallA.pure hG (by kernel_rfl) ?_
    simp -implicitDefEqProofs only [go_sem, seval, ↓reduceIte]
    refine (signed_spec G hG _ _ (by omega)).mono ?_
    rintro _ _ rfl
    have key : (if decide (a < 0) = true then -((a.natAbs % b.natAbs : Nat) : Int) else ((a.natAbs % b.natAbs : Nat) : Int)) = a.tmod b := by
      rw [tmod_abs]
    rw [key]
    simp -implicitDefEqProofs only [go_sem, seval, ↓reduceIte, encR]
    refine hK _ ?_
    clear hK K
    refine AW.ret ?_
    simp -implicitDefEqProofs only [go_sem, seval, ↓reduceIte]
    refine endK_some ?_
    rw [modR, if_neg h3]
    rfl
end Go.Hs
end

section
namespace Go.Hs
open Go.Proofs
set_option maxRecDepth 10000
def ints (l : List Nat) : List Int := l.map (fun (d : Nat) => (d : Int))
@[simp] theorem ints_len (l : List Nat) : (ints l).length = l.length := by simp [ints]
theorem ints_get (l : List Nat) (k : Nat) : (ints l)[k]? = (l[k]?).map (fun (d : Nat) => (d : Int)) := by simp [ints]
theorem ints_app (a b : List Nat) : ints (a ++ b) = ints a ++ ints b := by simp [ints]
/-- A row of digits in memory: nil, or a row with room behind it. -/
def slD (nl : Bool) (l : List Nat) : Sl Int := if nl then .nil else .mk false (ints l)
/- ref06.digit -/
theorem digit_spec (G : Nat → V) (hG : GOk G) (c : Col) (s : Sl Int) (la : List Nat) (hs : s.l = ints la) (k : Nat) (hl : la.length < 1000000000) :
    Spec Tryd.prog G 61 [encSl c 1 (V.int .i64) s, .int .i64 k] hNone (fun v _ => v = .int .i64 (la.getD k 0 : Nat)) := by
  refine Spec.of_code' 0 13 [.tmp 4] Tryd.func61 rfl rfl rfl rfl fun X => ?_
  refine AW.seq_k fun K hK => AW.region (by kernel_rfl) ?_
  simp -implicitDefEqProofs only [go_sem, seval, ↓reduceIte]
  refine hK _ ?_
  clear hK K
  refine AW.seq_k fun K1 hK1 => ?_
  refine AW.seq_k fun K hK => AW.region (by kernel_rfl) ?_
  simp -implicitDefEqProofs only [go_sem, seval, ↓reduceIte, hs, ints_len]
  refine hK _ ?_
  clear hK K
  refine AW.condS (by simp -implicitDefEqProofs only [go_sem, seval, ↓reduceIte]; rfl) (fun h2 => ?_) (fun h2 => ?_)
  · have h3 : k < la.length := by simpa using h2
    have hg : (ints la)[k]? = some ((la.getD k 0 : Nat) : Int) := by
      rw [ints_get, List.getElem?_eq_getElem h3, List.getD_eq_getElem?_getD, List.getElem?_eq_getElem h3]
      rfl
    refine AW.seq_k fun K hK => AW.region (by kernel_rfl) ?_
    simp -implicitDefEqProofs only [go_sem, seval, ↓reduceIte, hs, hg]
    refine hK _ ?_
    clear hK K
    refine AW.ret ?_
    simp -implicitDefEqProofs only [go_sem, seval, ↓reduceIte]
    refine endK_some ?_
    rfl
  · have h3 : ¬ k < la.length := by simpa using h2
    refine AW.skip ?_
    simp -implicitDefEqProofs only [go_sem, seval, ↓reduceIte]
    refine hK1 _ ?_
    refine AW.seq_k fun K hK => AW.region (by kernel_rfl) ?_
    simp -implicitDefEqProofs only [go_sem, seval, ↓reduceIte]
    refine hK _ ?_
    clear hK K
    refine AW.ret ?_
    simp -implicitDefEqProofs only [go_sem, seval, ↓reduceIte]
    refine endK_some ?_
    rw [List.getD_eq_getElem?_getD, List.getElem?_eq_none (by omega)]
    rfl
/- ref06.trim -/
theorem trim_spec (G : Nat → V) (hG : GOk G) (c : Col) (nl : Bool) (l : List Nat) (hnl : nl = true → l = []) (hl : l.length < 1000000000) :
    Spec Tryd.prog G 31 [encSl c 1 (V.int .i64) (slD nl l)] hNone (fun v _ => v = encSl c 1 (V.int .i64) (slD nl (trimL l.length l))) := by
  refine Spec.of_code' 0 21 [.tmp 2] Tryd.func31 rfl rfl rfl rfl fun X => ?_
  have hsl : (slD nl l).l = ints l := by
    cases nl with
    | true => rw [hnl rfl]; rfl
    | false => rfl
  refine AW.seq_k fun K hK => AW.region (by kernel_rfl) ?_
  simp -implicitDefEqProofs only [go_sem, seval, ↓reduceIte]
  refine hK _ ?_
  clear hK K
  refine AW.seq_k fun K1 hK1 => ?_
  refine AW.block ?_
  refine AW.while (fun (m : List Nat) => st [(0, encSl c 1 (V.int .i64) (slD nl m))] []) (fun m => trimL m.length m = trimL l.length l ∧ (nl = true → m = []) ∧ m.length ≤ l.length) (fun m => m.length) l ⟨rfl, hnl, Nat.le_refl _⟩
    (Weak.st (by simp -implicitDefEqProofs only [go_sem, seval, ↓reduceIte]) (by simp -implicitDefEqProofs only [go_sem, seval, ↓reduceIte])) ?_
  rintro m ⟨hm, hmn, hml⟩ L2 hL2
  have hsm : (slD nl m).l = ints m := by
    cases nl with
    | true => rw [hmn rfl]; rfl
    | false => rfl
  refine AW.seq_k fun K3 hK3 => ?_
  rcases List.eq_nil_or_concat m with rfl | ⟨m', d, hme⟩
  · refine AW.seq_k fun K hK => AW.region (by kernel_rfl) ?_
    simp -implicitDefEqProofs only [go_sem, seval, ↓reduceIte, hsm, ints_len]
    refine hK _ ?_
    clear hK K
    refine AW.condS (by simp -implicitDefEqProofs only [go_sem, seval, ↓reduceIte]; rfl) (fun h4 => ?_) (fun h4 => ?_)
    · simp at h4
    · refine AW.exit ?_
      simp -implicitDefEqProofs only [go_sem, seval, ↓reduceIte]
      refine hK1 _ ?_
      refine AW.seq_k fun K hK => AW.region (by kernel_rfl) ?_
      simp -implicitDefEqProofs only [go_sem, seval, ↓reduceIte]
      refine hK _ ?_
      clear hK K
      refine AW.ret ?_
      simp -implicitDefEqProofs only [go_sem, seval, ↓reduceIte]
      refine endK_some ?_
      rw [← hm]
      rfl
  · rw [List.concat_eq_append] at hme
    have hlen : m.length = m'.length + 1 := by rw [hme]; simp
    have hw : IntKind.i64.wrap ((m.length : Int) - 1) = (m'.length : Int) := by rw [w64 (by omega) (by omega)]; omega
    have hg : (ints m)[m'.length]? = some (d : Int) := by rw [hme, ints_get]; simp
    have hpos : decide ((m.length : Int) > 0) = true := by rw [decide_eq_true_iff]; omega
    have hlast : m.getLast? = some d := by rw [hme]; simp
    have hnlf : nl = false := by
      cases nl with
      | true => rw [hmn rfl] at hlen; simp at hlen
      | false => rfl
    subst hnlf
    by_cases hd : d = 0
    · subst hd
      refine AW.seq_k fun K hK => AW.region (by kernel_rfl) ?_
      simp -implicitDefEqProofs only [go_sem, seval, ↓reduceIte, hsm, ints_len, hpos, hw, hg]
      refine hK _ ?_
      clear hK K
      refine AW.condS (by simp -implicitDefEqProofs only [go_sem, seval, ↓reduceIte]; rfl) (fun h4 => ?_) (fun h4 => ?_)
      · refine AW.skip ?_
        simp -implicitDefEqProofs only [go_sem, seval, ↓reduceIte]
        refine hK3 _ ?_
        refine AW.block ?_
        have hle : m'.length ≤ m.length := by omega
        refine AW.region (by kernel_rfl) ?_
        simp -implicitDefEqProofs only [go_sem, seval, ↓reduceIte, hsm, ints_len, hw, hle]
        have hsub : (slD false m).sub 0 m'.length = slD false m' := by
          rw [hme]
          simp [slD, Sl.sub, ints_app, ints_len]
        refine hL2 _ ⟨m', by omega, ⟨?_, by simp, by omega⟩, Weak.st (by simp -implicitDefEqProofs only [go_sem, seval, ↓reduceIte, hsub]) (by simp -implicitDefEqProofs only [go_sem, seval, ↓reduceIte])⟩
        rw [← hm, hlen, trimL, if_pos (by rw [hlast]), hme]
        simp
      · simp at h4
    · have hd0 : ((d : Int) == 0) = false := by simpa using hd
      refine AW.seq_k fun K hK => AW.region (by kernel_rfl) ?_
      simp -implicitDefEqProofs only [go_sem, seval, ↓reduceIte, hsm, ints_len, hpos, hw, hg, hd0]
      refine hK _ ?_
      clear hK K
      refine AW.condS (by simp -implicitDefEqProofs only [go_sem, seval, ↓reduceIte]; rfl) (fun h4 => ?_) (fun h4 => ?_)
      · simp at h4
      · refine AW.exit ?_
        simp -implicitDefEqProofs only [go_sem, seval, ↓reduceIte]
        refine hK1 _ ?_
        refine AW.seq_k fun K hK => AW.region (by kernel_rfl) ?_
        simp -implicitDefEqProofs only [go_sem, seval, ↓reduceIte]
        refine hK _ ?_
        clear hK K
        refine AW.ret ?_
        simp -implicitDefEqProofs only [go_sem, seval, ↓reduceIte]
        refine endK_some ?_
        rw [← hm, hlen, trimL, if_neg (by rw [hlast]; simpa using hd)]
/- Of: digits of a number. -/
/-- A long number in memory. -/
def encLong (c : Col) (nl : Bool) (l : List Nat) (below : Bool) : V := .agg [encSl c 1 (V.int .i64) (slD nl l), .bool below]
theorem slD_l {nl : Bool} {l : List Nat} (h : nl = true → l = []) : (slD nl l).l = ints l := by
  cases nl with
  | true => rw [h rfl]; rfl
  | false => rfl
theorem recol_long (g : Col → Col) (c : Col) (nl : Bool) (l : List Nat) (b : Bool) : (encLong c nl l b).recol g = encLong (g c) nl l b := by
  simp only [encLong, recol_agg, List.map_cons, List.map_nil, recol_encI, recol_bool]
def ofNil (n : Int) : Bool := decide (n = 0)
/- ref06.Of -/
theorem rOf_spec (G : Nat → V) (hG : GOk G) (n : Int) (hn : InK .i64 n) : Spec Tryd.prog G 33 [.int .i64 n] hNone (fun v _ => v = encLong .new (decide (n = 0)) (dg n.natAbs) (decide (n < 0))) := by
  have hn' := (inK_iff n).1 hn
  refine Spec.of_code' 0 24 [.cell 2 47] Tryd.func33 rfl rfl rfl rfl fun X => ?_
  refine AW.seq_k fun K hK => AW.region (by kernel_rfl) ?_
  simp -implicitDefEqProofs only [go_sem, seval, ↓reduceIte]
  intro g2
  refine hK _ ?_
  clear hK K
  refine AW.seq_k fun K hK => AW.region (by kernel_rfl) ?_
  simp -implicitDefEqProofs only [go_sem, seval, ↓reduceIte]
  intro g3
  refine hK _ ?_
  clear hK K
  refine AW.seq_k fun K1 hK1 => ?_
  refine AW.block ?_
  refine AW.while (fun (x : Nat × Int × List Nat) => st [(0, .int .i64 x.2.1), (2, .ptr 2 g2 0), (3, .ptr 3 g3 0)] [(2, .cells .new g2 0 [.nils, .bool false]), (3, .cells .new g3 0 [grown 19 x.1 1 (ints x.2.2), .bool (decide (n < 0))]), (19, grownO x.1 (V.int .i64) (ints x.2.2))])
    (fun x => InK .i64 x.2.1 ∧ (x.2.1 ≤ 0 ∧ n ≤ 0 ∨ 0 ≤ x.2.1 ∧ 0 ≤ n) ∧ x.2.2 ++ dg x.2.1.natAbs = dg n.natAbs) (fun x => x.2.1.natAbs) (0, n, []) ⟨hn, by show n ≤ 0 ∧ n ≤ 0 ∨ 0 ≤ n ∧ 0 ≤ n; omega, rfl⟩
    (Weak.st (by simp -implicitDefEqProofs only [go_sem, seval, ↓reduceIte]) (by simp -implicitDefEqProofs only [go_sem, seval, ↓reduceIte]; try exact ⟨rfl, rfl⟩)) ?_
  rintro ⟨gx, m, out⟩ ⟨hm, hsg, hout⟩ L2 hL2
  have hm : InK .i64 m := hm
  have hm' := (inK_iff m).1 hm
  have hout : out ++ dg m.natAbs = dg n.natAbs := hout
  have hol : out.length + (dg m.natAbs).length ≤ 20 := by
    rw [← List.length_append, hout]
    exact dg_len (by omega)
  refine AW.seq_k fun K3 hK3 => ?_
  refine AW.seq_k fun K hK => AW.region (by kernel_rfl) ?_
  simp -implicitDefEqProofs only [go_sem, seval, ↓reduceIte]
  refine hK _ ?_
  clear hK K
  refine AW.condS (by simp -implicitDefEqProofs only [go_sem, seval, ↓reduceIte]; rfl) (fun h4 => ?_) (fun h4 => ?_)
  · have h5 : m ≠ 0 := by simpa using h4
    refine AW.skip ?_
    simp -implicitDefEqProofs only [go_sem, seval, ↓reduceIte]
    refine hK3 _ ?_
    refine AW.block ?_
    refine AW.seq_k fun K hK => AW.region (by kernel_rfl) ?_
    simp -implicitDefEqProofs only [go_sem, seval, ↓reduceIte]
    refine hK _ ?_
    clear hK K
    have ht : m.tdiv 10 = if m < 0 then -((m.natAbs / 10 : Nat) : Int) else ((m.natAbs / 10 : Nat) : Int) := by
      rw [tdiv_abs]
      by_cases h : m < 0 <;> simp [h]
    have hr : m.tmod 10 = if m < 0 then -((m.natAbs % 10 : Nat) : Int) else ((m.natAbs % 10 : Nat) : Int) := by
      rw [tmod_abs]
      by_cases h : m < 0 <;> simp [h]
    have hd : (if IntKind.i64.wrap (0 - m.tmod 10) > m.tmod 10 then IntKind.i64.wrap (0 - m.tmod 10) else m.tmod 10) = ((m.natAbs % 10 : Nat) : Int) := by
      rw [w64 (by rw [hr]; split <;> omega) (by rw [hr]; split <;> omega), hr]
      split <;> split <;> omega
    have hw : IntKind.i64.wrap (m.tdiv 10) = m.tdiv 10 := w64 (by rw [ht]; split <;> omega) (by rw [ht]; split <;> omega)
    refine AW.seq_k fun K hK => AW.region (by kernel_rfl) ?_
    simp -implicitDefEqProofs only [go_sem, seval, ↓reduceIte, hd]
    intro g18
    have hdl : (dg m.natAbs).length = (dg (m.natAbs / 10)).length + 1 := by rw [dg_pos (by omega)]; rfl
    refine app_grown (f := V.int .i64) (l := ints out) (l2 := [((m.natAbs % 10 : Nat) : Int)]) (g := gx) (fun _ => rfl) rfl rfl rfl rfl (roomOk_of (by omega) (by simp; omega)) fun g19 => ?_
    simp -implicitDefEqProofs only [go_sem, seval, ↓reduceIte]
    refine hK _ ?_
    clear hK K
    refine AW.region (by kernel_rfl) ?_
    simp -implicitDefEqProofs only [go_sem, seval, ↓reduceIte, hw]
    have hn2 : (m.tdiv 10).natAbs = m.natAbs / 10 := by rw [ht]; split <;> omega
    refine hL2 _ ⟨(g19, m.tdiv 10, out ++ [m.natAbs % 10]), ?_, ⟨(show InK .i64 (m.tdiv 10) from (inK_iff _).2 (by rw [ht]; split <;> omega)), ?_, ?_⟩, Weak.st (by simp -implicitDefEqProofs only [go_sem, seval, ↓reduceIte]) (by simp -implicitDefEqProofs only [go_sem, seval, ↓reduceIte, ints_app]; try exact ⟨rfl, rfl⟩)⟩
    · show (m.tdiv 10).natAbs < m.natAbs
      rw [hn2]; omega
    · show m.tdiv 10 ≤ 0 ∧ n ≤ 0 ∨ 0 ≤ m.tdiv 10 ∧ 0 ≤ n
      have hsg : m ≤ 0 ∧ n ≤ 0 ∨ 0 ≤ m ∧ 0 ≤ n := hsg
      rw [ht]; split <;> omega
    · show out ++ [m.natAbs % 10] ++ dg (m.tdiv 10).natAbs = dg n.natAbs
      rw [hn2, ← hout, dg_pos (n := m.natAbs) (by omega)]
      simp
  · have h5 : m = 0 := by simpa using h4
    subst h5
    have hout : out = dg n.natAbs := by simpa [dg_zero] using hout
    refine AW.exit ?_
    simp -implicitDefEqProofs only [go_sem, seval, ↓reduceIte]
    refine hK1 _ ?_
    refine AW.weak (Weak.stF (fun o => o == 19) (l := [(2, .ptr 2 g2 0), (3, .ptr 3 g3 0)]) (m := [(2, .cells .new g2 0 [.nils, .bool false]), (3, .cells .new g3 0 [encSl .new 1 (V.int .i64) (grownS (ints out)), .bool (decide (n < 0))])]) ?_ ?_) ?_
    · simp -implicitDefEqProofs only [go_sem, seval, ↓reduceIte]
      exact ⟨Fz.same _, Fz.same _⟩
    · simp only [allFzO_cons, allFzO_nil, and_true]
      exact ⟨FzO.keep rfl (by simp -implicitDefEqProofs only [go_sem, seval, ↓reduceIte]), FzO.of rfl rfl ⟨Fz.grown rfl rfl (fun _ => rfl), Fz.same _, trivial⟩⟩
    refine AW.seq_k fun K hK => AW.region (by kernel_rfl) ?_
    simp -implicitDefEqProofs only [go_sem, seval, ↓reduceIte]
    refine hK _ ?_
    clear hK K
    refine AW.ret ?_
    simp -implicitDefEqProofs only [go_sem, seval, ↓reduceIte]
    refine endK_some ?_
    rw [hout]
    have : grownS (ints (dg n.natAbs)) = slD (decide (n = 0)) (dg n.natAbs) := by
      by_cases h : n = 0
      · subst h; rfl
      · have : dg n.natAbs ≠ [] := by rw [Ne, dg_ne]; omega
        rw [show decide (n = 0) = false by simpa using h]
        revert this
        cases dg n.natAbs with
        | nil => intro h; exact absurd rfl h
        | cons x r => intro _; rfl
    rw [this]
    rfl
end Go.Hs
end

section
namespace Go.Hs
open Go.Proofs
set_option maxRecDepth 10000
theorem val_drop (l : List Nat) (k : Nat) : val (l.drop k) = l.getD k 0 + 10 * val (l.drop (k + 1)) := by
  by_cases h : k < l.length
  · rw [List.drop_eq_getElem_cons h, val, List.getD_eq_getElem?_getD, List.getElem?_eq_getElem h]
    rfl
  · rw [List.drop_eq_nil_of_le (by omega), List.drop_eq_nil_of_le (by omega), List.getD_eq_getElem?_getD, List.getElem?_eq_none (by omega)]
    rfl
theorem getD_lt {l : List Nat} (h : Dig l) (k : Nat) : l.getD k 0 < 10 := by
  rw [List.getD_eq_getElem?_getD]
  by_cases hk : k < l.length
  · rw [List.getElem?_eq_getElem hk]
    exact h _ (List.getElem_mem hk)
  · rw [List.getElem?_eq_none (by omega)]
    decide
theorem ints_get_some {l : List Nat} {k : Nat} (h : k < l.length) : (ints l)[k]? = some ((l.getD k 0 : Nat) : Int) := by
  rw [ints_get, List.getElem?_eq_getElem h, List.getD_eq_getElem?_getD, List.getElem?_eq_getElem h]
  rfl
theorem pow_pos10 (k : Nat) : 0 < 10 ^ k := Nat.pow_pos (by decide)
theorem grownS_ints {l : List Nat} {nl : Bool} (h : nl = decide (l = [])) : grownS (ints l) = slD nl l := by
  cases l with
  | nil => subst h; rfl
  | cons x r =>
    subst h
    rw [show decide (x :: r = []) = false by simp]
    rfl
/-- A step of a sum. -/
theorem add_step {K n A B o V : Nat} (h : o + K * (n + 10 * A + 10 * B) = V) : (o + K * (n % 10)) + (K * 10) * (n / 10 + A + B) = V := by
  rw [← h, Nat.mul_assoc, Nat.add_assoc, ← Nat.mul_add]
  congr 2
  omega
/-- The sum of two rows of digits, when k digits are told. -/
structure AddI (la lb : List Nat) (M k : Nat) (out : List Nat) (cr : Nat) : Prop where
  len : out.length = k
  dig : Dig out
  hcr : cr ≤ 1
  v : val out + 10 ^ k * (cr + val (la.drop k) + val (lb.drop k)) = val la + val lb
  last : k = M + 1 → cr = 0
  emp : M = 0 → k = 0 ∧ cr = 0
theorem AddI.zero (la lb : List Nat) (M : Nat) : AddI la lb M 0 [] 0 := { len := rfl, dig := fun d hd => by simp at hd, hcr := by omega, v := by simp [val], last := fun _ => rfl, emp := fun _ => ⟨rfl, rfl⟩ }
theorem AddI.step {la lb : List Nat} {M k : Nat} {out : List Nat} {cr : Nat} (h : AddI la lb M k out cr) (hM : M = max la.length lb.length) (da : Dig la) (db : Dig lb) (hgo : k < M ∨ cr > 0) {n : Nat} (hn : n = la.getD k 0 + lb.getD k 0 + cr) (hk : k ≤ M) :
    AddI la lb M (k + 1) (out ++ [n % 10]) (n / 10) := by
  have h1 := getD_lt da k
  have h2 := getD_lt db k
  have h3 := h.hcr
  refine ⟨by simp [h.len], Dig.app.2 ⟨h.dig, Dig.one (by omega)⟩, by omega, ?_, fun e => ?_, fun e => ?_⟩
  · have hv := h.v
    rw [val_drop la k, val_drop lb k] at hv
    rw [val_app, h.len, Nat.pow_succ]
    have e : val out + 10 ^ k * (n + 10 * val (la.drop (k + 1)) + 10 * val (lb.drop (k + 1))) = val la + val lb := by
      rw [← hv, hn]
      congr 2
      omega
    simpa [val] using add_step e
  · have e1 : la.getD k 0 = 0 := by rw [List.getD_eq_getElem?_getD, List.getElem?_eq_none (by omega)]; rfl
    have e2 : lb.getD k 0 = 0 := by rw [List.getD_eq_getElem?_getD, List.getElem?_eq_none (by omega)]; rfl
    omega
  · have := h.emp e
    omega
theorem AddI.done {la lb : List Nat} {M k : Nat} {out : List Nat} {cr : Nat} (h : AddI la lb M k out cr) (hM : M = max la.length lb.length) (hno : ¬ (k < M ∨ cr > 0)) : val out = val la + val lb ∧ decide (la = [] ∧ lb = []) = decide (out = []) := by
  have hc0 : cr = 0 := by omega
  have hv := h.v
  rw [List.drop_eq_nil_of_le (show la.length ≤ k by omega), List.drop_eq_nil_of_le (show lb.length ≤ k by omega), hc0] at hv
  refine ⟨by simpa [val] using hv, ?_⟩
  rw [decide_eq_decide, ← List.length_eq_zero_iff, ← List.length_eq_zero_iff, ← List.length_eq_zero_iff, h.len]
  have := h.emp
  omega
/- ref06.add -/
theorem rAdd_spec (G : Nat → V) (hG : GOk G) (c1 c2 : Col) (sa sb : Sl Int) (la lb : List Nat) (ha : sa.l = ints la) (hb : sb.l = ints lb) (da : Dig la) (db : Dig lb) (hla : la.length < 1000000) (hlb : lb.length < 1000000) :
    Spec Tryd.prog G 48 [encSl c1 1 (V.int .i64) sa, encSl c2 1 (V.int .i64) sb] hNone (fun v _ => v = encSl .any 1 (V.int .i64) (slD (decide (la = [] ∧ lb = [])) (dg (val la + val lb)))) := by
  have hal : sa.l.length = la.length := by rw [ha]; simp
  have hbl : sb.l.length = lb.length := by rw [hb]; simp
  obtain ⟨M, hM⟩ : ∃ M, M = max la.length lb.length := ⟨_, rfl⟩
  have hmx : (if ((lb.length : Nat) : Int) > ((la.length : Nat) : Int) then ((lb.length : Nat) : Int) else ((la.length : Nat) : Int)) = (M : Int) := by split <;> omega
  refine Spec.of_code' 0 40 [.tmp 4] Tryd.func48 rfl rfl rfl rfl fun X => ?_
  refine AW.seq_k fun K hK => AW.region (by kernel_rfl) ?_
  simp -implicitDefEqProofs only [go_sem, seval, ↓reduceIte]
  refine hK _ ?_
  clear hK K
  refine AW.seq_k fun K hK => AW.region (by kernel_rfl) ?_
  simp -implicitDefEqProofs only [go_sem, seval, ↓reduceIte]
  refine hK _ ?_
  clear hK K
  refine AW.seq_k fun K hK => AW.region (by kernel_rfl) ?_
  simp -implicitDefEqProofs only [go_sem, seval, ↓reduceIte]
  refine hK _ ?_
  clear hK K
  refine AW.seq_k fun K1 hK1 => ?_
  refine AW.seq_k fun K hK => AW.region (by kernel_rfl) ?_
  simp -implicitDefEqProofs only [go_sem, seval, ↓reduceIte]
  refine hK _ ?_
  clear hK K
  refine AW.block ?_
  refine AW.for (M + 1) (fun k (x : Nat × List Nat × Nat) => st [(0, encSl c1 1 (V.int .i64) sa), (1, encSl c2 1 (V.int .i64) sb), (5, grown 35 x.1 1 (ints x.2.1)), (6, .int .i64 x.2.2), (7, .int .i64 k)] [(35, grownO x.1 (V.int .i64) (ints x.2.1))])
    (fun k x => AddI la lb M k x.2.1 x.2.2) 0 (0, [], 0) (Nat.zero_le _) (AddI.zero la lb M)
    (Weak.st (by simp -implicitDefEqProofs only [go_sem, seval, ↓reduceIte]; try rfl) (by simp -implicitDefEqProofs only [go_sem, seval, ↓reduceIte]; try rfl)) ?_
  rintro k ⟨gx, out, cr⟩ hk hI L2 hL2
  have hI : AddI la lb M k out cr := hI
  have hol := hI.len
  have hcr := hI.hcr
  refine AW.seqJ (fun (_ : Unit) => st [(0, encSl c1 1 (V.int .i64) sa), (1, encSl c2 1 (V.int .i64) sb), (5, grown 35 gx 1 (ints out)), (6, .int .i64 cr), (7, .int .i64 k)] [(35, grownO gx (V.int .i64) (ints out))]) (fun _ => k < M ∨ cr > 0) (fun K3 hK3 => ?_) ?_
  · by_cases h1 : k < M
    · have h1' : decide ((k : Int) < (M : Int)) = true := by rw [decide_eq_true_iff]; omega
      refine AW.seq_k fun K hK => AW.region (by kernel_rfl) ?_
      simp -implicitDefEqProofs only [go_sem, seval, ↓reduceIte, hal, hbl, hmx, h1']
      refine hK _ ?_
      clear hK K
      refine AW.condS (by simp -implicitDefEqProofs only [go_sem, seval, ↓reduceIte]; rfl) (fun h4 => ?_) (fun h4 => ?_)
      · refine AW.skip ?_
        simp -implicitDefEqProofs only [go_sem, seval, ↓reduceIte]
        exact hK3 _ () (.inl h1) (Weak.st (by simp -implicitDefEqProofs only [go_sem, seval, ↓reduceIte]) (by simp -implicitDefEqProofs only [go_sem, seval, ↓reduceIte]))
      · simp at h4
    · have h1' : decide ((k : Int) < (M : Int)) = false := by rw [decide_eq_false_iff_not]; omega
      refine AW.seq_k fun K hK => AW.region (by kernel_rfl) ?_
      simp -implicitDefEqProofs only [go_sem, seval, ↓reduceIte, hal, hbl, hmx, h1']
      refine hK _ ?_
      clear hK K
      refine AW.condS (by simp -implicitDefEqProofs only [go_sem, seval, ↓reduceIte]; rfl) (fun h4 => ?_) (fun h4 => ?_)
      · refine AW.skip ?_
        simp -implicitDefEqProofs only [go_sem, seval, ↓reduceIte]
        exact hK3 _ () (.inr (by have := of_decide_eq_true h4; omega)) (Weak.st (by simp -implicitDefEqProofs only [go_sem, seval, ↓reduceIte]) (by simp -implicitDefEqProofs only [go_sem, seval, ↓reduceIte]))
      · have hno : ¬ (k < M ∨ cr > 0) := by have := of_decide_eq_false h4; omega
        obtain ⟨hvo, hone⟩ := hI.done hM hno
        refine AW.exit ?_
        simp -implicitDefEqProofs only [go_sem, seval, ↓reduceIte]
        refine hK1 _ ?_
        refine AW.weak (Weak.stF (fun o => o == 35) (l := [(5, encSl .new 1 (V.int .i64) (slD (decide (out = [])) out))]) (m := []) ?_ trivial) ?_
        · simp -implicitDefEqProofs only [go_sem, seval, ↓reduceIte]
          rw [← grownS_ints rfl]
          exact Fz.grown rfl rfl (fun _ => rfl)
        refine AW.seq_k fun K hK => AW.region (by kernel_rfl) ?_
        simp -implicitDefEqProofs only [go_sem, seval, ↓reduceIte]
        refine CallA.pure hG (by kernel_rfl) ?_
        simp -implicitDefEqProofs only [go_sem, seval, ↓reduceIte]
        refine (trim_spec G hG _ (decide (out = [])) out (by simp) (by omega)).mono ?_
        rintro _ _ rfl
        simp -implicitDefEqProofs only [go_sem, seval, ↓reduceIte]
        refine hK _ ?_
        clear hK K
        refine AW.ret ?_
        simp -implicitDefEqProofs only [go_sem, seval, ↓reduceIte]
        refine endK_some ?_
        rw [trim_val _ _ (Nat.le_refl _) hI.dig, hvo, hone]
  · intro _ hgo
    have hkM : k ≤ M := by
      rcases hgo with h | h
      · omega
      · have := hI.last; omega
    have h5 := getD_lt da k
    have h6 := getD_lt db k
    refine AW.seq_k fun K4 hK4 => ?_
    refine AW.block ?_
    refine AW.seq_k fun K hK => AW.region (by kernel_rfl) ?_
    simp -implicitDefEqProofs only [go_sem, seval, ↓reduceIte]
    refine CallA.pure hG (by kernel_rfl) ?_
    simp -implicitDefEqProofs only [go_sem, seval, ↓reduceIte]
    refine (digit_spec G hG _ sa la ha k (by omega)).mono ?_
    rintro _ _ rfl
    simp -implicitDefEqProofs only [go_sem, seval, ↓reduceIte]
    refine CallA.pure hG (by kernel_rfl) ?_
    simp -implicitDefEqProofs only [go_sem, seval, ↓reduceIte]
    refine (digit_spec G hG _ sb lb hb k (by omega)).mono ?_
    rintro _ _ rfl
    have hw1 : IntKind.i64.wrap (((la.getD k 0 : Nat) : Int) + ((lb.getD k 0 : Nat) : Int)) = ((la.getD k 0 + lb.getD k 0 : Nat) : Int) := by rw [w64 (by omega) (by omega)]; omega
    have hw2 : IntKind.i64.wrap (((la.getD k 0 + lb.getD k 0 : Nat) : Int) + (cr : Int)) = ((la.getD k 0 + lb.getD k 0 + cr : Nat) : Int) := by rw [w64 (by omega) (by omega)]; omega
    simp -implicitDefEqProofs only [go_sem, seval, ↓reduceIte, hw1, hw2]
    refine hK _ ?_
    clear hK K
    obtain ⟨n, hn⟩ : ∃ n, n = la.getD k 0 + lb.getD k 0 + cr := ⟨_, rfl⟩
    rw [← hn]
    have hr : (n : Int).tmod 10 = ((n % 10 : Nat) : Int) := by rw [Int.tmod_eq_emod_of_nonneg (by omega)]; rfl
    have hq : IntKind.i64.wrap ((n : Int).tdiv 10) = ((n / 10 : Nat) : Int) := by rw [Int.tdiv_eq_ediv_of_nonneg (by omega), w64 (by omega) (by omega)]; rfl
    refine AW.seq_k fun K hK => AW.region (by kernel_rfl) ?_
    simp -implicitDefEqProofs only [go_sem, seval, ↓reduceIte, hr]
    intro g34
    refine app_grown (f := V.int .i64) (l := ints out) (l2 := [((n % 10 : Nat) : Int)]) (g := gx) (fun _ => rfl) rfl rfl rfl rfl (roomOk_of (by omega) (by simp; omega)) fun g35 => ?_
    simp -implicitDefEqProofs only [go_sem, seval, ↓reduceIte]
    refine hK _ ?_
    clear hK K
    refine AW.region (by kernel_rfl) ?_
    simp -implicitDefEqProofs only [go_sem, seval, ↓reduceIte, hq]
    refine hK4 _ ?_
    refine AW.region (by kernel_rfl) ?_
    simp -implicitDefEqProofs only [go_sem, seval, ↓reduceIte]
    refine hL2 _ ⟨by omega, (g35, out ++ [n % 10], n / 10), hI.step hM da db hgo hn hkM, Weak.st (by simp -implicitDefEqProofs only [go_sem, seval, ↓reduceIte, ints_app]; exact ⟨rfl, congrArg _ (w64 (by omega) (by omega))⟩) (by simp -implicitDefEqProofs only [go_sem, seval, ↓reduceIte, ints_app]; try rfl)⟩
end Go.Hs
end

section
namespace Go.Hs
open Go.Proofs
set_option maxRecDepth 10000
/-- The difference of two rows of digits, when k digits are told. -/
structure TakeI (la lb : List Nat) (k : Nat) (out : List Nat) (br : Nat) : Prop where
  len : out.length = k
  dig : Dig out
  hbr : br ≤ 1
  v : (val out : Int) + (10 : Int) ^ k * ((val (la.drop k) : Int) - br - val (lb.drop k)) = val la - val lb
theorem TakeI.zero (la lb : List Nat) : TakeI la lb 0 [] 0 := { len := rfl, dig := fun d hd => by simp at hd, hbr := by omega, v := by simp [val] }
theorem take_step {K x A B o V b : Int} {d br' : Int} (h : o + K * (x + 10 * A - b - (d + 10 * B)) = V) {n : Int} (hn : n = x - d - b + 10 * br') : (o + K * n) + (K * 10) * (A - br' - B) = V := by
  rw [← h, hn, Int.mul_assoc, Int.add_assoc, ← Int.mul_add]
  congr 2
  omega
theorem TakeI.step {la lb : List Nat} {k : Nat} {out : List Nat} {br : Nat} (h : TakeI la lb k out br) {n br' : Nat} (hn : (n : Int) = (la.getD k 0 : Nat) - (lb.getD k 0 : Nat) - br + 10 * br') (hn10 : n < 10) (hb : br' ≤ 1) :
    TakeI la lb (k + 1) (out ++ [n]) br' := by
  refine ⟨by simp [h.len], Dig.app.2 ⟨h.dig, Dig.one hn10⟩, hb, ?_⟩
  have hv := h.v
  rw [val_drop la k, val_drop lb k] at hv
  rw [val_app, h.len, Int.pow_succ]
  have e : (val out : Int) + (10 : Int) ^ k * (((la.getD k 0 : Nat) : Int) + 10 * (val (la.drop (k + 1)) : Int) - (br : Int) - (((lb.getD k 0 : Nat) : Int) + 10 * (val (lb.drop (k + 1)) : Int))) = val la - val lb := by
    rw [← hv]
    congr 2
  have := take_step e hn
  simpa [val] using this
theorem TakeI.done {la lb : List Nat} {out : List Nat} {br : Nat} (h : TakeI la lb la.length out br) (hl : lb.length ≤ la.length) (hv : val lb ≤ val la) : val out = val la - val lb := by
  have h1 := h.v
  rw [List.drop_eq_nil_of_le (Nat.le_refl _), List.drop_eq_nil_of_le hl] at h1
  have h2 := val_lt h.dig
  rw [h.len] at h2
  have h3 := h.hbr
  have h4 : ((10 ^ la.length : Nat) : Int) = (10 : Int) ^ la.length := by simp
  have hb : br = 0 ∨ br = 1 := by omega
  rcases hb with rfl | rfl
  · simp [val] at h1; omega
  · simp [val] at h1
    generalize (10 : Int) ^ la.length = K at *
    have : K * -1 = -K := by rw [Int.mul_neg, Int.mul_one]
    omega
/- ref06.take -/
theorem rTake_spec (G : Nat → V) (hG : GOk G) (c1 c2 : Col) (sa sb : Sl Int) (la lb : List Nat) (ha : sa.l = ints la) (hb : sb.l = ints lb) (da : Dig la) (db : Dig lb) (hla : la.length < 1000000) (hlb : lb.length ≤ la.length) (hab : val lb ≤ val la) :
    Spec Tryd.prog G 50 [encSl c1 1 (V.int .i64) sa, encSl c2 1 (V.int .i64) sb] hNone (fun v _ => v = encSl .any 1 (V.int .i64) (slD (decide (la = [])) (dg (val la - val lb)))) := by
  have hal : sa.l.length = la.length := by rw [ha]; simp
  refine Spec.of_code' 0 35 [.tmp 4] Tryd.func50 rfl rfl rfl rfl fun X => ?_
  refine AW.seq_k fun K hK => AW.region (by kernel_rfl) ?_
  simp -implicitDefEqProofs only [go_sem, seval, ↓reduceIte]
  refine hK _ ?_
  clear hK K
  refine AW.seq_k fun K hK => AW.region (by kernel_rfl) ?_
  simp -implicitDefEqProofs only [go_sem, seval, ↓reduceIte]
  refine hK _ ?_
  clear hK K
  refine AW.seq_k fun K hK => AW.region (by kernel_rfl) ?_
  simp -implicitDefEqProofs only [go_sem, seval, ↓reduceIte]
  refine hK _ ?_
  clear hK K
  refine AW.seq_k fun K1 hK1 => ?_
  refine AW.seq_k fun K hK => AW.region (by kernel_rfl) ?_
  simp -implicitDefEqProofs only [go_sem, seval, ↓reduceIte]
  refine hK _ ?_
  clear hK K
  refine AW.block ?_
  refine AW.for la.length (fun k (x : Nat × List Nat × Nat) => st [(0, encSl c1 1 (V.int .i64) sa), (1, encSl c2 1 (V.int .i64) sb), (5, grown 32 x.1 1 (ints x.2.1)), (6, .int .i64 x.2.2), (7, .int .i64 k)] [(32, grownO x.1 (V.int .i64) (ints x.2.1))])
    (fun k x => TakeI la lb k x.2.1 x.2.2) 0 (0, [], 0) (Nat.zero_le _) (TakeI.zero la lb)
    (Weak.st (by simp -implicitDefEqProofs only [go_sem, seval, ↓reduceIte]; try rfl) (by simp -implicitDefEqProofs only [go_sem, seval, ↓reduceIte]; try rfl)) ?_
  rintro k ⟨gx, out, br⟩ hk hI L2 hL2
  have hI : TakeI la lb k out br := hI
  have hol := hI.len
  have hbr := hI.hbr
  refine AW.seq_k fun K3 hK3 => ?_
  refine AW.seq_k fun K hK => AW.region (by kernel_rfl) ?_
  simp -implicitDefEqProofs only [go_sem, seval, ↓reduceIte, hal]
  refine hK _ ?_
  clear hK K
  refine AW.condS (by simp -implicitDefEqProofs only [go_sem, seval, ↓reduceIte]; rfl) (fun h4 => ?_) (fun h4 => ?_)
  · have hk1 : k < la.length := by have := of_decide_eq_true h4; omega
    refine AW.skip ?_
    simp -implicitDefEqProofs only [go_sem, seval, ↓reduceIte]
    refine hK3 _ ?_
    have hg : sa.l[k]? = some ((la.getD k 0 : Nat) : Int) := by rw [ha]; exact ints_get_some hk1
    have p1 : ∀ cc, PureC Tryd.prog G 61 [encSl cc 1 (V.int .i64) sb, .int .i64 k] (.int .i64 (lb.getD k 0 : Nat)) := fun cc => ⟨by kernel_rfl, by
      simp -implicitDefEqProofs only [go_sem, seval, ↓reduceIte]
      refine (digit_spec G hG _ sb lb hb k (by omega)).mono ?_
      rintro _ _ rfl
      simp -implicitDefEqProofs only [go_sem, seval, ↓reduceIte]⟩
    have h5 := getD_lt da k
    have h6 := getD_lt db k
    refine AW.seq_k fun K4 hK4 => ?_
    refine AW.block ?_
    have hw1 : IntKind.i64.wrap (((la.getD k 0 : Nat) : Int) - ((lb.getD k 0 : Nat) : Int)) = ((la.getD k 0 : Nat) : Int) - ((lb.getD k 0 : Nat) : Int) := w64 (by omega) (by omega)
    have hw2 : IntKind.i64.wrap (((la.getD k 0 : Nat) : Int) - ((lb.getD k 0 : Nat) : Int) - (br : Int)) = ((la.getD k 0 : Nat) : Int) - ((lb.getD k 0 : Nat) : Int) - (br : Int) := w64 (by omega) (by omega)
    refine AW.seq_k fun K hK => AW.regionT ⟨fun i => if i = 6 then .int .i64 (lb.getD k 0 : Nat) else .top, fun _ => .pure⟩ (by kernel_rfl) hG (by kernel_rfl) (by kernel_rfl) ?_
    simp -implicitDefEqProofs only [go_sem, seval, ↓reduceIte, hg, hw1, hw2]
    refine ⟨p1 _, ?_⟩
    refine hK _ ?_
    clear hK K
    refine AW.seq_k fun K hK => AW.region (by kernel_rfl) ?_
    simp -implicitDefEqProofs only [go_sem, seval, ↓reduceIte]
    refine hK _ ?_
    clear hK K
    refine AW.seqJ (fun (y : Nat × Nat) => st [(0, encSl c1 1 (V.int .i64) sa), (1, encSl c2 1 (V.int .i64) sb), (5, grown 32 gx 1 (ints out)), (6, .int .i64 y.2), (7, .int .i64 k), (8, .int .i64 y.1)] [(32, grownO gx (V.int .i64) (ints out))])
      (fun y => (y.1 : Int) = (la.getD k 0 : Nat) - (lb.getD k 0 : Nat) - br + 10 * y.2 ∧ y.1 < 10 ∧ y.2 ≤ 1) (fun K5 hK5 => ?_) ?_
    · refine AW.seq_k fun K hK => AW.region (by kernel_rfl) ?_
      simp -implicitDefEqProofs only [go_sem, seval, ↓reduceIte]
      refine hK _ ?_
      clear hK K
      refine AW.condS (by simp -implicitDefEqProofs only [go_sem, seval, ↓reduceIte]; rfl) (fun h7 => ?_) (fun h7 => ?_)
      · have h7' := of_decide_eq_true h7
        refine AW.seq_k fun K hK => AW.region (by kernel_rfl) ?_
        simp -implicitDefEqProofs only [go_sem, seval, ↓reduceIte]
        refine hK _ ?_
        clear hK K
        refine AW.region (by kernel_rfl) ?_
        simp -implicitDefEqProofs only [go_sem, seval, ↓reduceIte]
        refine hK5 _ (la.getD k 0 + 10 - lb.getD k 0 - br, 1) ⟨by show ((la.getD k 0 + 10 - lb.getD k 0 - br : Nat) : Int) = _; omega, by show la.getD k 0 + 10 - lb.getD k 0 - br < 10; omega, by show 1 ≤ 1; omega⟩ (Weak.st (by simp -implicitDefEqProofs only [go_sem, seval, ↓reduceIte]; refine congrArg _ ?_; rw [w64 (by omega) (by omega)]; omega) (by simp -implicitDefEqProofs only [go_sem, seval, ↓reduceIte]))
      · have h7' := of_decide_eq_false h7
        refine AW.skip ?_
        simp -implicitDefEqProofs only [go_sem, seval, ↓reduceIte]
        refine hK5 _ (la.getD k 0 - lb.getD k 0 - br, 0) ⟨by show ((la.getD k 0 - lb.getD k 0 - br : Nat) : Int) = _; omega, by show la.getD k 0 - lb.getD k 0 - br < 10; omega, by show 0 ≤ 1; omega⟩ (Weak.st (by simp -implicitDefEqProofs only [go_sem, seval, ↓reduceIte]; refine congrArg _ ?_; omega) (by simp -implicitDefEqProofs only [go_sem, seval, ↓reduceIte]))
    · rintro ⟨n, br'⟩ ⟨hn, hn10, hb1⟩
      have hn : (n : Int) = (la.getD k 0 : Nat) - (lb.getD k 0 : Nat) - br + 10 * br' := hn
      have hn10 : n < 10 := hn10
      have hb1 : br' ≤ 1 := hb1
      refine AW.region (by kernel_rfl) ?_
      simp -implicitDefEqProofs only [go_sem, seval, ↓reduceIte]
      intro g31
      refine app_grown (f := V.int .i64) (l := ints out) (l2 := [(n : Int)]) (g := gx) (fun _ => rfl) rfl rfl rfl rfl (roomOk_of (by omega) (by simp; omega)) fun g32 => ?_
      simp -implicitDefEqProofs only [go_sem, seval, ↓reduceIte]
      refine hK4 _ ?_
      refine AW.region (by kernel_rfl) ?_
      simp -implicitDefEqProofs only [go_sem, seval, ↓reduceIte]
      refine hL2 _ ⟨hk1, (g32, out ++ [n], br'), hI.step hn hn10 hb1, Weak.st (by simp -implicitDefEqProofs only [go_sem, seval, ↓reduceIte, ints_app]; exact ⟨rfl, congrArg _ (w64 (by omega) (by omega))⟩) (by simp -implicitDefEqProofs only [go_sem, seval, ↓reduceIte, ints_app]; try rfl)⟩
  · have hk1 : k = la.length := by have := of_decide_eq_false h4; omega
    subst hk1
    have hvo := hI.done hlb hab
    refine AW.exit ?_
    simp -implicitDefEqProofs only [go_sem, seval, ↓reduceIte]
    refine hK1 _ ?_
    refine AW.weak (Weak.stF (fun o => o == 32) (l := [(5, encSl .new 1 (V.int .i64) (slD (decide (out = [])) out))]) (m := []) ?_ trivial) ?_
    · simp -implicitDefEqProofs only [go_sem, seval, ↓reduceIte]
      rw [← grownS_ints rfl]
      exact Fz.grown rfl rfl (fun _ => rfl)
    refine AW.seq_k fun K hK => AW.region (by kernel_rfl) ?_
    simp -implicitDefEqProofs only [go_sem, seval, ↓reduceIte]
    refine CallA.pure hG (by kernel_rfl) ?_
    simp -implicitDefEqProofs only [go_sem, seval, ↓reduceIte]
    refine (trim_spec G hG _ (decide (out = [])) out (by simp) (by omega)).mono ?_
    rintro _ _ rfl
    simp -implicitDefEqProofs only [go_sem, seval, ↓reduceIte]
    refine hK _ ?_
    clear hK K
    refine AW.ret ?_
    simp -implicitDefEqProofs only [go_sem, seval, ↓reduceIte]
    refine endK_some ?_
    have : decide (la = []) = decide (out = []) := by rw [decide_eq_decide, ← List.length_eq_zero_iff, ← List.length_eq_zero_iff, hol]
    rw [trim_val _ _ (Nat.le_refl _) hI.dig, hvo, this]
/- ref06.less -/
theorem val_split {l : List Nat} {i : Nat} (h : i < l.length) : val l = val (l.take i) + 10 ^ i * (l.getD i 0 + 10 * val (l.drop (i + 1))) := by
  conv => lhs; rw [← List.take_append_drop i l]
  rw [val_app, val_drop, List.length_take, Nat.min_eq_left (by omega)]
theorem val_cmp {a b : List Nat} {i : Nat} (da : Dig a) (db : Dig b) (ha : i < a.length) (hb : i < b.length) (he : a.drop (i + 1) = b.drop (i + 1)) (hne : a.getD i 0 < b.getD i 0) : val a < val b := by
  have h1 := val_lt (l := a.take i) fun d hd => da d (List.mem_of_mem_take hd)
  rw [List.length_take, Nat.min_eq_left (by omega)] at h1
  rw [val_split ha, val_split hb, he]
  have h2 : 10 ^ i * (a.getD i 0 + 10 * val (b.drop (i + 1))) + 10 ^ i ≤ 10 ^ i * (b.getD i 0 + 10 * val (b.drop (i + 1))) := by
    rw [← Nat.mul_succ]
    exact Nat.mul_le_mul_left _ (by omega)
  omega
theorem rLess_spec (G : Nat → V) (hG : GOk G) (c1 c2 : Col) (sa sb : Sl Int) (a b : Nat) (ha : sa.l = ints (dg a)) (hb : sb.l = ints (dg b)) (hla : (dg a).length < 1000000) (hlb : (dg b).length < 1000000) :
    Spec Tryd.prog G 49 [encSl c1 1 (V.int .i64) sa, encSl c2 1 (V.int .i64) sb] hNone (fun v _ => v = .bool (decide (a < b))) := by
  have hal : sa.l.length = (dg a).length := by rw [ha]; simp
  have hbl : sb.l.length = (dg b).length := by rw [hb]; simp
  have hva := val_dg a
  have hvb := val_dg b
  have hda := dig_dg a
  have hdb := dig_dg b
  have hlt1 := @dg_len_lt a b
  have hlt2 := @dg_len_lt b a
  generalize dg a = la at *
  generalize dg b = lb at *
  refine Spec.of_code' 0 41 [.tmp 4] Tryd.func49 rfl rfl rfl rfl fun X => ?_
  refine AW.seq_k fun K hK => AW.region (by kernel_rfl) ?_
  simp -implicitDefEqProofs only [go_sem, seval, ↓reduceIte]
  refine hK _ ?_
  clear hK K
  refine AW.seq_k fun K1 hK1 => ?_
  refine AW.seq_k fun K hK => AW.region (by kernel_rfl) ?_
  simp -implicitDefEqProofs only [go_sem, seval, ↓reduceIte, hal, hbl]
  refine hK _ ?_
  clear hK K
  refine AW.condS (by simp -implicitDefEqProofs only [go_sem, seval, ↓reduceIte]; rfl) (fun h2 => ?_) (fun h2 => ?_)
  · have h3 : la.length ≠ lb.length := by intro e; rw [e] at h2; simp at h2
    refine AW.seq_k fun K hK => AW.region (by kernel_rfl) ?_
    simp -implicitDefEqProofs only [go_sem, seval, ↓reduceIte, hal, hbl]
    refine hK _ ?_
    clear hK K
    refine AW.ret ?_
    simp -implicitDefEqProofs only [go_sem, seval, ↓reduceIte]
    refine endK_some ?_
    refine congrArg V.bool (decide_eq_decide.2 ?_)
    constructor
    · intro h; exact hlt1 (by omega)
    · intro h
      have : ¬ lb.length < la.length := fun h' => by have := hlt2 h'; omega
      omega
  · have h3 : la.length = lb.length := by
      have h2' : ((la.length : Nat) : Int) = ((lb.length : Nat) : Int) := by simpa using h2
      omega
    refine AW.skip ?_
    simp -implicitDefEqProofs only [go_sem, seval, ↓reduceIte]
    refine hK1 _ ?_
    refine AW.seq_k fun K4 hK4 => ?_
    refine AW.seq_k fun K hK => AW.region (by kernel_rfl) ?_
    simp -implicitDefEqProofs only [go_sem, seval, ↓reduceIte, hal]
    refine hK _ ?_
    clear hK K
    refine AW.block ?_
    refine AW.for la.length (fun k (_ : Unit) => st [(0, encSl c1 1 (V.int .i64) sa), (1, encSl c2 1 (V.int .i64) sb), (5, .int .i64 ((la.length : Int) - 1 - k))] []) (fun k _ => la.drop (la.length - k) = lb.drop (la.length - k)) 0 () (Nat.zero_le _) (by rw [List.drop_eq_nil_of_le (by omega), List.drop_eq_nil_of_le (by omega)])
      (Weak.st (by simp -implicitDefEqProofs only [go_sem, seval, ↓reduceIte]; exact congrArg _ (by rw [w64 (by omega) (by omega)]; omega)) (by simp -implicitDefEqProofs only [go_sem, seval, ↓reduceIte])) ?_
    intro k _ hk hR L5 hL5
    refine AW.seq_k fun K6 hK6 => ?_
    refine AW.seq_k fun K hK => AW.region (by kernel_rfl) ?_
    simp -implicitDefEqProofs only [go_sem, seval, ↓reduceIte]
    refine hK _ ?_
    clear hK K
    refine AW.condS (by simp -implicitDefEqProofs only [go_sem, seval, ↓reduceIte]; rfl) (fun h7 => ?_) (fun h7 => ?_)
    · have hk1 : k < la.length := by have := of_decide_eq_true h7; omega
      refine AW.skip ?_
      simp -implicitDefEqProofs only [go_sem, seval, ↓reduceIte]
      refine hK6 _ ?_
      obtain ⟨i, hi⟩ : ∃ i, i = la.length - 1 - k := ⟨_, rfl⟩
      have e0 : ((la.length : Int) - 1 - k) = (i : Int) := by omega
      have g1 : sa.l[i]? = some ((la.getD i 0 : Nat) : Int) := by rw [ha]; exact ints_get_some (by omega)
      have g2 : sb.l[i]? = some ((lb.getD i 0 : Nat) : Int) := by rw [hb]; exact ints_get_some (by omega)
      have hR' : la.drop (i + 1) = lb.drop (i + 1) := by rw [show i + 1 = la.length - k by omega]; exact hR
      rw [e0]
      refine AW.seq_k fun K8 hK8 => ?_
      refine AW.block ?_
      refine AW.seq_k fun K hK => AW.regionT ⟨fun _ => .top, fun _ => .pure⟩ (by kernel_rfl) hG (by kernel_rfl) (by kernel_rfl) ?_
      simp -implicitDefEqProofs only [go_sem, seval, ↓reduceIte, g1, g2]
      refine hK _ ?_
      clear hK K
      refine AW.condS (by simp -implicitDefEqProofs only [go_sem, seval, ↓reduceIte]; rfl) (fun h9 => ?_) (fun h9 => ?_)
      · have hne : la.getD i 0 ≠ lb.getD i 0 := by intro e; rw [e] at h9; simp at h9
        refine AW.seq_k fun K hK => AW.regionT ⟨fun _ => .top, fun _ => .pure⟩ (by kernel_rfl) hG (by kernel_rfl) (by kernel_rfl) ?_
        simp -implicitDefEqProofs only [go_sem, seval, ↓reduceIte, g1, g2]
        refine hK _ ?_
        clear hK K
        refine AW.ret ?_
        simp -implicitDefEqProofs only [go_sem, seval, ↓reduceIte]
        refine endK_some ?_
        refine congrArg V.bool (decide_eq_decide.2 ?_)
        rw [← hva, ← hvb]
        constructor
        · intro h; exact val_cmp hda hdb (by omega) (by omega) hR' (by omega)
        · intro h
          by_cases h' : lb.getD i 0 < la.getD i 0
          · have := val_cmp hdb hda (by omega) (by omega) hR'.symm h'; omega
          · omega
      · have he : la.getD i 0 = lb.getD i 0 := by
          have : ((la.getD i 0 : Nat) : Int) = ((lb.getD i 0 : Nat) : Int) := by simpa using h9
          omega
        refine AW.skip ?_
        simp -implicitDefEqProofs only [go_sem, seval, ↓reduceIte]
        refine hK8 _ ?_
        refine AW.region (by kernel_rfl) ?_
        simp -implicitDefEqProofs only [go_sem, seval, ↓reduceIte]
        refine hL5 _ ⟨hk1, (), ?_, Weak.st (by simp -implicitDefEqProofs only [go_sem, seval, ↓reduceIte]; exact congrArg _ (by rw [w64 (by omega) (by omega)]; omega)) (by simp -implicitDefEqProofs only [go_sem, seval, ↓reduceIte])⟩
        rw [show la.length - (k + 1) = i by omega, List.drop_eq_getElem_cons (show i < la.length by omega), List.drop_eq_getElem_cons (show i < lb.length by omega), hR']
        congr 1
        rw [List.getD_eq_getElem?_getD, List.getD_eq_getElem?_getD, List.getElem?_eq_getElem (show i < la.length by omega), List.getElem?_eq_getElem (show i < lb.length by omega)] at he
        exact he
    · have hk1 : k = la.length := by have := of_decide_eq_false h7; omega
      refine AW.exit ?_
      simp -implicitDefEqProofs only [go_sem, seval, ↓reduceIte]
      refine hK4 _ ?_
      refine AW.seq_k fun K hK => AW.region (by kernel_rfl) ?_
      simp -implicitDefEqProofs only [go_sem, seval, ↓reduceIte]
      refine hK _ ?_
      clear hK K
      refine AW.ret ?_
      simp -implicitDefEqProofs only [go_sem, seval, ↓reduceIte]
      refine endK_some ?_
      have : la = lb := by rw [hk1] at hR; simpa using hR
      rw [← hva, ← hvb, this]
      simp
end Go.Hs
end

section
namespace Go.Hs
open Go.Proofs
set_option maxRecDepth 10000
def sgn (below : Bool) (n : Nat) : Int := if below then -(n : Int) else n
@[go_sem] theorem slD_ll (nl : Bool) (l : List Nat) (h : nl = true → l = []) : (slD nl l).l = ints l := slD_l h
theorem val_drop_le (l : List Nat) (i : Nat) : val (l.drop i) ≤ val l := by
  have h : val l = val (l.take i) + 10 ^ (l.take i).length * val (l.drop i) := by rw [← val_app, List.take_append_drop]
  have := Nat.le_mul_of_pos_left (val (l.drop i)) (pow_pos10 (l.take i).length)
  omega
/- ref06.Fits -/
theorem rFits_spec (G : Nat → V) (hG : GOk G) (c : Col) (nl : Bool) (l : List Nat) (below : Bool) (hnl : nl = true → l = []) (hd : Dig l) (hll : l.length < 1000000) :
    Spec Tryd.prog G 46 [encLong c nl l below] hNone (fun v _ => v = .tuple [.int .i64 (told (sgn below (val l))).1, .bool (fits (sgn below (val l)))]) := by
  have hsl := slD_l hnl
  refine Spec.of_code' 0 40 [.tmp 2, .tmp 3] Tryd.func46 rfl rfl rfl rfl fun X => ?_
  simp only [encLong]
  refine AW.seq_k fun K hK => AW.region (by kernel_rfl) ?_
  simp -implicitDefEqProofs only [go_sem, seval, ↓reduceIte]
  intro g1
  refine hK _ ?_
  clear hK K
  refine AW.seq_k fun K hK => AW.region (by kernel_rfl) ?_
  simp -implicitDefEqProofs only [go_sem, seval, ↓reduceIte]
  refine hK _ ?_
  clear hK K
  refine AW.seq_k fun K1 hK1 => ?_
  refine AW.seq_k fun K hK => AW.region (by kernel_rfl) ?_
  simp -implicitDefEqProofs only [go_sem, seval, ↓reduceIte, hsl, ints_len]
  refine hK _ ?_
  clear hK K
  refine AW.block ?_
  refine AW.for l.length (fun k (_ : Unit) => st [(1, .ptr 1 g1 0), (4, .int .i64 (-(val (l.drop (l.length - k)) : Int))), (5, .int .i64 ((l.length : Int) - 1 - k))] [(1, .cells .new g1 0 [encSl c 1 (V.int .i64) (slD nl l), .bool below])]) (fun k _ => val (l.drop (l.length - k)) ≤ 9223372036854775808) 0 () (Nat.zero_le _) (by rw [List.drop_eq_nil_of_le (by omega)]; simp [val])
    (Weak.st (by simp -implicitDefEqProofs only [go_sem, seval, ↓reduceIte]; rw [List.drop_eq_nil_of_le (by omega)]; exact ⟨rfl, congrArg _ (by rw [w64 (by omega) (by omega)]; omega)⟩) (by simp -implicitDefEqProofs only [go_sem, seval, ↓reduceIte])) ?_
  intro k _ hk hR L2 hL2
  refine AW.seq_k fun K3 hK3 => ?_
  refine AW.seq_k fun K hK => AW.region (by kernel_rfl) ?_
  simp -implicitDefEqProofs only [go_sem, seval, ↓reduceIte]
  refine hK _ ?_
  clear hK K
  refine AW.condS (by simp -implicitDefEqProofs only [go_sem, seval, ↓reduceIte]; rfl) (fun h4 => ?_) (fun h4 => ?_)
  · have hk1 : k < l.length := by have := of_decide_eq_true h4; omega
    refine AW.skip ?_
    simp -implicitDefEqProofs only [go_sem, seval, ↓reduceIte]
    refine hK3 _ ?_
    obtain ⟨i, hi⟩ : ∃ i, i = l.length - 1 - k := ⟨_, rfl⟩
    have e0 : ((l.length : Int) - 1 - k) = (i : Int) := by omega
    have g2 := ints_get_some (l := l) (k := i) (by omega)
    have h5 := getD_lt hd i
    have hvd := val_drop l i
    have hvl := val_drop_le l i
    rw [show l.length - k = i + 1 by omega] at hR ⊢
    rw [e0]
    generalize l.getD i 0 = d at g2 h5 hvd
    generalize val (l.drop (i + 1)) = m at hR hvd
    refine AW.seq_k fun K5 hK5 => ?_
    refine AW.block ?_
    refine AW.seq_k fun K hK => AW.region (by kernel_rfl) ?_
    simp -implicitDefEqProofs only [go_sem, seval, ↓reduceIte, hsl, g2]
    refine hK _ ?_
    clear hK K
    refine AW.seq_k fun K6 hK6 => ?_
    have hw : IntKind.i64.wrap (-9223372036854775808 + (d : Int)) = -9223372036854775808 + (d : Int) := w64 (by omega) (by omega)
    have hT : IntKind.i64.wrap ((-9223372036854775808 + (d : Int)).tdiv 10) = -(((9223372036854775808 - d) / 10 : Nat) : Int) := by
      have e1 : (-9223372036854775808 + (d : Int)).natAbs = 9223372036854775808 - d := by omega
      have e2 : (-9223372036854775808 + (d : Int)).tdiv 10 = -(((9223372036854775808 - d) / 10 : Nat) : Int) := by
        rw [tdiv_abs, e1]
        have : (-9223372036854775808 + (d : Int)) < 0 := by omega
        simp [this]
      rw [e2, w64 (by omega) (by omega)]
    refine AW.seq_k fun K hK => AW.region (by kernel_rfl) ?_
    simp -implicitDefEqProofs only [go_sem, seval, ↓reduceIte, hw, hT]
    refine hK _ ?_
    clear hK K
    refine AW.condS (by simp -implicitDefEqProofs only [go_sem, seval, ↓reduceIte]; rfl) (fun h7 => ?_) (fun h7 => ?_)
    · have h7' := of_decide_eq_true h7
      refine AW.seq_k fun K hK => AW.region (by kernel_rfl) ?_
      simp -implicitDefEqProofs only [go_sem, seval, ↓reduceIte]
      refine hK _ ?_
      clear hK K
      refine AW.ret ?_
      simp -implicitDefEqProofs only [go_sem, seval, ↓reduceIte]
      refine endK_some ?_
      have hf : fits (sgn below (val l)) = false := by
        unfold fits sgn
        rw [decide_eq_false_iff_not]
        split <;> omega
      rw [told_no hf, hf]
    · have h7' := of_decide_eq_false h7
      refine AW.skip ?_
      simp -implicitDefEqProofs only [go_sem, seval, ↓reduceIte]
      refine hK6 _ ?_
      refine AW.region (by kernel_rfl) ?_
      simp -implicitDefEqProofs only [go_sem, seval, ↓reduceIte]
      refine hK5 _ ?_
      refine AW.region (by kernel_rfl) ?_
      simp -implicitDefEqProofs only [go_sem, seval, ↓reduceIte]
      refine hL2 _ ⟨hk1, (), ?_, Weak.st (by simp -implicitDefEqProofs only [go_sem, seval, ↓reduceIte]; rw [show l.length - (k + 1) = i by omega, hvd]; exact ⟨congrArg _ (by rw [w64 (n := 10 * -(m : Int)) (by omega) (by omega), w64 (by omega) (by omega)]; omega), congrArg _ (by rw [w64 (by omega) (by omega)]; omega)⟩) (by simp -implicitDefEqProofs only [go_sem, seval, ↓reduceIte])⟩
      rw [show l.length - (k + 1) = i by omega, hvd]
      omega
  · have hk1 : k = l.length := by have := of_decide_eq_false h4; omega
    subst hk1
    refine AW.exit ?_
    simp -implicitDefEqProofs only [go_sem, seval, ↓reduceIte]
    refine hK1 _ ?_
    rw [Nat.sub_self, List.drop_zero] at hR ⊢
    generalize hm : val l = m at hR
    have stop : (below = true ∨ m = 0) ∨ ¬ (below = true ∨ m = 0) := Classical.em _
    refine AW.seqJ (fun (_ : Unit) => st [(4, .int .i64 (-(m : Int)))] []) (fun _ => below = false ∧ m ≠ 0) (fun K8 hK8 => ?_) ?_
    · have yes : (below = true ∨ m = 0) → V.tuple [.int .i64 (-(m : Int)), .bool true] = V.tuple [.int .i64 (told (sgn below m)).1, .bool (fits (sgn below m))] := by
        intro h
        have hs : sgn below m = -(m : Int) := by
          unfold sgn
          split
          · rfl
          · rename_i hb
            have : m = 0 := h.resolve_left hb
            omega
        have hf : fits (-(m : Int)) = true := by unfold fits; rw [decide_eq_true_iff]; omega
        rw [hs, told_yes hf, hf]
      cases hb : below with
      | true =>
        refine AW.seq_k fun K hK => AW.region (by kernel_rfl) ?_
        simp -implicitDefEqProofs only [go_sem, seval, ↓reduceIte, hb]
        refine hK _ ?_
        clear hK K
        refine AW.condS (by simp -implicitDefEqProofs only [go_sem, seval, ↓reduceIte]; rfl) (fun h9 => ?_) (fun h9 => ?_)
        · refine AW.seq_k fun K hK => AW.region (by kernel_rfl) ?_
          simp -implicitDefEqProofs only [go_sem, seval, ↓reduceIte]
          refine hK _ ?_
          clear hK K
          refine AW.ret ?_
          simp -implicitDefEqProofs only [go_sem, seval, ↓reduceIte]
          refine endK_some ?_
          rw [hb] at yes
          exact yes (.inl rfl)
        · simp at h9
      | false =>
        refine AW.seq_k fun K hK => AW.region (by kernel_rfl) ?_
        simp -implicitDefEqProofs only [go_sem, seval, ↓reduceIte, hb]
        refine hK _ ?_
        clear hK K
        refine AW.condS (by simp -implicitDefEqProofs only [go_sem, seval, ↓reduceIte]; rfl) (fun h9 => ?_) (fun h9 => ?_)
        · have h0 : m = 0 := by have : -(m : Int) = 0 := by simpa using h9
                                omega
          refine AW.seq_k fun K hK => AW.region (by kernel_rfl) ?_
          simp -implicitDefEqProofs only [go_sem, seval, ↓reduceIte]
          refine hK _ ?_
          clear hK K
          refine AW.ret ?_
          simp -implicitDefEqProofs only [go_sem, seval, ↓reduceIte]
          refine endK_some ?_
          rw [hb] at yes
          exact yes (.inr h0)
        · have h0 : m ≠ 0 := by rintro rfl; simp at h9
          refine AW.skip ?_
          simp -implicitDefEqProofs only [go_sem, seval, ↓reduceIte]
          exact hK8 _ () ⟨hb, h0⟩ (Weak.st (by simp -implicitDefEqProofs only [go_sem, seval, ↓reduceIte]) (by simp -implicitDefEqProofs only [go_sem, seval, ↓reduceIte]))
    · rintro _ ⟨hb, h0⟩
      subst hb
      refine AW.seq_k fun K9 hK9 => ?_
      refine AW.seq_k fun K hK => AW.region (by kernel_rfl) ?_
      simp -implicitDefEqProofs only [go_sem, seval, ↓reduceIte]
      refine hK _ ?_
      clear hK K
      refine AW.condS (by simp -implicitDefEqProofs only [go_sem, seval, ↓reduceIte]; rfl) (fun h10 => ?_) (fun h10 => ?_)
      · have h1 : m = 9223372036854775808 := by have : -(m : Int) = -9223372036854775808 := by simpa using h10
                                                omega
        refine AW.seq_k fun K hK => AW.region (by kernel_rfl) ?_
        simp -implicitDefEqProofs only [go_sem, seval, ↓reduceIte]
        refine hK _ ?_
        clear hK K
        refine AW.ret ?_
        simp -implicitDefEqProofs only [go_sem, seval, ↓reduceIte]
        refine endK_some ?_
        have hf : fits (sgn false m) = false := by unfold fits sgn; rw [decide_eq_false_iff_not]; simp; omega
        rw [told_no hf, hf]
      · have h1 : m ≠ 9223372036854775808 := by rintro rfl; simp at h10
        refine AW.skip ?_
        simp -implicitDefEqProofs only [go_sem, seval, ↓reduceIte]
        refine hK9 _ ?_
        refine AW.seq_k fun K hK => AW.region (by kernel_rfl) ?_
        simp -implicitDefEqProofs only [go_sem, seval, ↓reduceIte]
        refine hK _ ?_
        clear hK K
        refine AW.ret ?_
        simp -implicitDefEqProofs only [go_sem, seval, ↓reduceIte]
        refine endK_some ?_
        have hf : fits (sgn false m) = true := by unfold fits sgn; rw [decide_eq_true_iff]; simp; omega
        rw [told_yes hf, hf, w64 (by omega) (by omega)]
        simp [sgn]
/- ref06.told -/
theorem rTold_spec (G : Nat → V) (hG : GOk G) (c : Col) (nl : Bool) (l : List Nat) (below : Bool) (hnl : nl = true → l = []) (hd : Dig l) (hll : l.length < 1000000) :
    Spec Tryd.prog G 30 [encLong c nl l below] hNone (fun v _ => v = encR (told (sgn below (val l)))) := by
  have hF := rFits_spec G hG c.ent nl l below hnl hd hll
  generalize sgn below (val l) = x at hF
  refine Spec.of_code' 0 14 [.tmp 2, .tmp 3] Tryd.func30 rfl rfl rfl rfl fun X => ?_
  simp only [encLong]
  refine AW.seq_k fun K hK => AW.region (by kernel_rfl) ?_
  simp -implicitDefEqProofs only [go_sem, seval, ↓reduceIte]
  intro g1
  refine hK _ ?_
  clear hK K
  refine AW.seq_k fun K hK => AW.region (by kernel_rfl) ?_
  simp -implicitDefEqProofs only [go_sem, seval, ↓reduceIte]
  refine CallA.pure hG (by kernel_rfl) ?_
  simp -implicitDefEqProofs only [go_sem, seval, ↓reduceIte]
  refine hF.mono ?_
  rintro _ _ rfl
  simp -implicitDefEqProofs only [go_sem, seval, ↓reduceIte]
  refine hK _ ?_
  clear hK K
  refine AW.seq_k fun K1 hK1 => ?_
  cases hf : fits x with
  | true =>
    refine AW.seq_k fun K hK => AW.region (by kernel_rfl) ?_
    simp -implicitDefEqProofs only [go_sem, seval, ↓reduceIte]
    refine hK _ ?_
    clear hK K
    refine AW.condS (by simp -implicitDefEqProofs only [go_sem, seval, ↓reduceIte]; rfl) (fun h2 => ?_) (fun h2 => ?_)
    · simp at h2
    · refine AW.skip ?_
      simp -implicitDefEqProofs only [go_sem, seval, ↓reduceIte]
      refine hK1 _ ?_
      refine AW.seq_k fun K hK => AW.region (by kernel_rfl) ?_
      simp -implicitDefEqProofs only [go_sem, seval, ↓reduceIte]
      refine hK _ ?_
      clear hK K
      refine AW.ret ?_
      simp -implicitDefEqProofs only [go_sem, seval, ↓reduceIte]
      refine endK_some ?_
      rw [told_yes hf]
      rfl
  | false =>
    refine AW.seq_k fun K hK => AW.region (by kernel_rfl) ?_
    simp -implicitDefEqProofs only [go_sem, seval, ↓reduceIte]
    refine hK _ ?_
    clear hK K
    refine AW.condS (by simp -implicitDefEqProofs only [go_sem, seval, ↓reduceIte]; rfl) (fun h2 => ?_) (fun h2 => ?_)
    · refine AW.seq_k fun K hK => AW.region (by kernel_rfl) ?_
      simp -implicitDefEqProofs only [go_sem, seval, ↓reduceIte]
      refine hK _ ?_
      clear hK K
      refine AW.ret ?_
      simp -implicitDefEqProofs only [go_sem, seval, ↓reduceIte]
      refine endK_some ?_
      rw [told_no hf]
      rfl
    · simp at h2
/- ref06.Minus -/
theorem rMinus_spec (G : Nat → V) (hG : GOk G) (c : Col) (nl : Bool) (l : List Nat) (below : Bool) :
    Spec Tryd.prog G 35 [encLong c nl l below] hNone (fun v _ => v = encLong c nl l (!below)) := by
  refine Spec.of_code' 0 9 [.cell 2 47] Tryd.func35 rfl rfl rfl rfl fun X => ?_
  simp only [encLong]
  refine AW.seq_k fun K hK => AW.region (by kernel_rfl) ?_
  simp -implicitDefEqProofs only [go_sem, seval, ↓reduceIte]
  intro g1 g2
  refine hK _ ?_
  clear hK K
  refine AW.seq_k fun K hK => AW.region (by kernel_rfl) ?_
  simp -implicitDefEqProofs only [go_sem, seval, ↓reduceIte]
  refine hK _ ?_
  clear hK K
  refine AW.ret ?_
  simp -implicitDefEqProofs only [go_sem, seval, ↓reduceIte]
  refine endK_some ?_
  rfl
end Go.Hs
end

section
namespace Go.Hs
open Go.Proofs
set_option maxRecDepth 10000
theorem add_pure (G : Nat → V) (hG : GOk G) (c1 c2 : Col) (n1 n2 : Bool) (a b : Nat) (h1 : n1 = true → dg a = []) (h2 : n2 = true → dg b = []) (hla : (dg a).length < 1000000) (hlb : (dg b).length < 1000000) :
    PureC Tryd.prog G 48 [encSl c1 1 (V.int .i64) (slD n1 (dg a)), encSl c2 1 (V.int .i64) (slD n2 (dg b))] (encSl .any 1 (V.int .i64) (slD (decide (dg a = [] ∧ dg b = [])) (dg (a + b)))) := ⟨by kernel_rfl, by
  simp -implicitDefEqProofs only [go_sem, seval, ↓reduceIte]
  refine (rAdd_spec G hG _ _ _ _ (dg a) (dg b) (slD_l h1) (slD_l h2) (dig_dg a) (dig_dg b) hla hlb).mono ?_
  rintro _ _ rfl
  rw [val_dg, val_dg]
  simp -implicitDefEqProofs only [go_sem, seval, ↓reduceIte]⟩
theorem take_pure (G : Nat → V) (hG : GOk G) (c1 c2 : Col) (n1 n2 : Bool) (a b : Nat) (h1 : n1 = true → dg a = []) (h2 : n2 = true → dg b = []) (hla : (dg a).length < 1000000) (hab : b ≤ a) :
    PureC Tryd.prog G 50 [encSl c1 1 (V.int .i64) (slD n1 (dg a)), encSl c2 1 (V.int .i64) (slD n2 (dg b))] (encSl .any 1 (V.int .i64) (slD (decide (dg a = [])) (dg (a - b)))) := ⟨by kernel_rfl, by
  have hlen : (dg b).length ≤ (dg a).length := by
    rcases Nat.lt_or_ge (dg a).length (dg b).length with h | h
    · have := dg_len_lt h; omega
    · exact h
  simp -implicitDefEqProofs only [go_sem, seval, ↓reduceIte]
  refine (rTake_spec G hG _ _ _ _ (dg a) (dg b) (slD_l h1) (slD_l h2) (dig_dg a) (dig_dg b) hla hlen (by rw [val_dg, val_dg]; exact hab)).mono ?_
  rintro _ _ rfl
  rw [val_dg, val_dg]
  simp -implicitDefEqProofs only [go_sem, seval, ↓reduceIte]⟩
/- ref06.Plus -/
theorem rPlus_spec (G : Nat → V) (hG : GOk G) (c1 c2 : Col) (n1 n2 b1 b2 : Bool) (a b : Nat) (h1 : n1 = true → dg a = []) (h2 : n2 = true → dg b = []) (hla : (dg a).length < 1000000) (hlb : (dg b).length < 1000000) :
    Spec Tryd.prog G 34 [encLong c1 n1 (dg a) b1, encLong c2 n2 (dg b) b2] hNone (fun v _ => ∃ nl m below, v = encLong .any nl (dg m) below ∧ (nl = true → dg m = []) ∧ sgn below m = sgn b1 a + sgn b2 b ∧ m ≤ a + b) := by
  refine Spec.of_code' 0 39 [.cell 4 47] Tryd.func34 rfl rfl rfl rfl fun X => ?_
  simp only [encLong]
  refine AW.seq_k fun K hK => AW.region (by kernel_rfl) ?_
  simp -implicitDefEqProofs only [go_sem, seval, ↓reduceIte]
  intro g2 g3 g4
  refine hK _ ?_
  clear hK K
  refine AW.seq_k fun K1 hK1 => ?_
  refine AW.seq_k fun K hK => AW.region (by kernel_rfl) ?_
  simp -implicitDefEqProofs only [go_sem, seval, ↓reduceIte]
  refine hK _ ?_
  clear hK K
  refine AW.condS (by simp -implicitDefEqProofs only [go_sem, seval, ↓reduceIte]; rfl) (fun h2' => ?_) (fun h2' => ?_)
  · have hb : b1 = b2 := by simpa using h2'
    have p1 := add_pure G hG c1 c2 n1 n2 a b h1 h2 hla hlb
    refine AW.seq_k fun K hK => AW.regionT ⟨fun i => if i = 4 then encSl .any 1 (V.int .i64) (slD (decide (dg a = [] ∧ dg b = [])) (dg (a + b))) else .top, fun _ => .pure⟩ (by kernel_rfl) hG (by kernel_rfl) (by kernel_rfl) ?_
    simp -implicitDefEqProofs only [go_sem, seval, ↓reduceIte]
    refine ⟨p1, ?_⟩
    refine hK _ ?_
    clear hK K
    refine AW.ret ?_
    simp -implicitDefEqProofs only [go_sem, seval, ↓reduceIte]
    refine endK_some ?_
    refine ⟨_, a + b, b1, rfl, ?_, ?_, Nat.le_refl _⟩
    · intro h
      have h := of_decide_eq_true h
      rw [dg_ne] at h ⊢
      rw [dg_ne] at h
      omega
    · subst hb
      unfold sgn
      split <;> omega
  · have hb : b1 ≠ b2 := by simpa using h2'
    refine AW.skip ?_
    simp -implicitDefEqProofs only [go_sem, seval, ↓reduceIte]
    refine hK1 _ ?_
    refine AW.seq_k fun K3 hK3 => ?_
    refine AW.seq_k fun K hK => AW.region (by kernel_rfl) ?_
    simp -implicitDefEqProofs only [go_sem, seval, ↓reduceIte]
    refine CallA.pure hG (by kernel_rfl) ?_
    simp -implicitDefEqProofs only [go_sem, seval, ↓reduceIte]
    refine (rLess_spec G hG _ _ _ _ a b (slD_l h1) (slD_l h2) hla hlb).mono ?_
    rintro _ _ rfl
    simp -implicitDefEqProofs only [go_sem, seval, ↓reduceIte]
    refine hK _ ?_
    clear hK K
    refine AW.condS (by simp -implicitDefEqProofs only [go_sem, seval, ↓reduceIte]; rfl) (fun h4 => ?_) (fun h4 => ?_)
    · have h4' := of_decide_eq_true h4
      have p1 := take_pure G hG c2 c1 n2 n1 b a h2 h1 hlb (by omega)
      refine AW.seq_k fun K hK => AW.regionT ⟨fun i => if i = 4 then encSl .any 1 (V.int .i64) (slD (decide (dg b = [])) (dg (b - a))) else .top, fun _ => .pure⟩ (by kernel_rfl) hG (by kernel_rfl) (by kernel_rfl) ?_
      simp -implicitDefEqProofs only [go_sem, seval, ↓reduceIte]
      refine ⟨p1, ?_⟩
      refine hK _ ?_
      clear hK K
      refine AW.ret ?_
      simp -implicitDefEqProofs only [go_sem, seval, ↓reduceIte]
      refine endK_some ?_
      refine ⟨_, b - a, b2, rfl, ?_, ?_, by omega⟩
      · intro h
        have h := of_decide_eq_true h
        rw [dg_ne] at h ⊢
        omega
      · unfold sgn
        cases b1 <;> cases b2 <;> simp at hb ⊢ <;> omega
    · have h4' := of_decide_eq_false h4
      have p1 := take_pure G hG c1 c2 n1 n2 a b h1 h2 hla (by omega)
      refine AW.skip ?_
      simp -implicitDefEqProofs only [go_sem, seval, ↓reduceIte]
      refine hK3 _ ?_
      refine AW.seq_k fun K hK => AW.regionT ⟨fun i => if i = 4 then encSl .any 1 (V.int .i64) (slD (decide (dg a = [])) (dg (a - b))) else .top, fun _ => .pure⟩ (by kernel_rfl) hG (by kernel_rfl) (by kernel_rfl) ?_
      simp -implicitDefEqProofs only [go_sem, seval, ↓reduceIte]
      refine ⟨p1, ?_⟩
      refine hK _ ?_
      clear hK K
      refine AW.ret ?_
      simp -implicitDefEqProofs only [go_sem, seval, ↓reduceIte]
      refine endK_some ?_
      refine ⟨_, a - b, b1, rfl, ?_, ?_, by omega⟩
      · intro h
        have h := of_decide_eq_true h
        rw [dg_ne] at h ⊢
        omega
      · unfold sgn
        cases b1 <;> cases b2 <;> simp at hb ⊢ <;> omega
theorem recol_longK (g : Col → Col) (c : Col) (nl : Bool) (l : List Nat) (b : Bool) : (V.agg [encSl c 1 (V.int .i64) (slD nl l), .bool b]).recol g = .agg [encSl (g c) 1 (V.int .i64) (slD nl l), .bool b] := recol_long g c nl l b
theorem sgn_of {n : Int} : sgn (decide (n < 0)) n.natAbs = n := by
  unfold sgn
  split
  · rename_i h; have := of_decide_eq_true h; omega
  · rename_i h; have : ¬ n < 0 := by simpa using h
    omega
theorem nil_of {n : Int} (h : decide (n = 0) = true) : dg n.natAbs = [] := by
  have := of_decide_eq_true h
  subst this; rfl
theorem len_of {n : Int} (hn : InK .i64 n) : (dg n.natAbs).length < 1000000 := by
  have := (inK_iff n).1 hn
  have := dg_len (n := n.natAbs) (k := 20) (by omega)
  omega
theorem len_le {m : Nat} (h : m ≤ 100000000000000000000000000000000000000000) : (dg m).length < 1000000 := by
  have := dg_len (n := m) (k := 42) (by omega)
  omega
/- ref06.Add -/
theorem rAddN_spec (G : Nat → V) (hG : GOk G) (a b : Int) (ha : InK .i64 a) (hb : InK .i64 b) : Spec Tryd.prog G 16 [.int .i64 a, .int .i64 b] hNone (fun v _ => v = encR (told (a + b))) := by
  have ha' := (inK_iff a).1 ha
  have hb' := (inK_iff b).1 hb
  refine Spec.of_code' 0 14 [.tmp 4, .tmp 5] Tryd.func16 rfl rfl rfl rfl fun X => ?_
  refine AW.seq_k fun K hK => AW.region (by kernel_rfl) ?_
  simp -implicitDefEqProofs only [go_sem, seval, ↓reduceIte]
  refine hK _ ?_
  clear hK K
  refine AW.seq_k fun K hK => AW.region (by kernel_rfl) ?_
  simp -implicitDefEqProofs only [go_sem, seval, ↓reduceIte]
  refine CallA.pure hG (by kernel_rfl) ?_
  simp -implicitDefEqProofs only [go_sem, seval, ↓reduceIte]
  refine (rOf_spec G hG a ha).mono ?_
  rintro _ _ rfl
  simp -implicitDefEqProofs only [go_sem, seval, ↓reduceIte, encLong]
  refine CallA.pure hG (by kernel_rfl) ?_
  simp -implicitDefEqProofs only [go_sem, seval, ↓reduceIte]
  refine (rOf_spec G hG b hb).mono ?_
  rintro _ _ rfl
  simp -implicitDefEqProofs only [go_sem, seval, ↓reduceIte, encLong]
  refine CallA.pure hG (by kernel_rfl) ?_
  simp -implicitDefEqProofs only [go_sem, seval, ↓reduceIte]
  rw [← encLong, ← encLong]
  refine (rPlus_spec G hG _ _ _ _ _ _ _ _ nil_of nil_of (len_of ha) (len_of hb)).mono ?_
  rintro _ _ ⟨nl, m, below, rfl, hnl, hm, hml⟩
  rw [sgn_of, sgn_of] at hm
  simp -implicitDefEqProofs only [go_sem, seval, ↓reduceIte, encLong]
  refine CallA.pure hG (by kernel_rfl) ?_
  simp -implicitDefEqProofs only [go_sem, seval, ↓reduceIte]
  rw [← encLong]
  refine (rTold_spec G hG _ _ _ _ hnl (dig_dg _) (len_le (by omega))).mono ?_
  rintro _ _ rfl
  rw [val_dg, hm]
  simp -implicitDefEqProofs only [go_sem, seval, ↓reduceIte, encR]
  refine hK _ ?_
  clear hK K
  refine AW.ret ?_
  simp -implicitDefEqProofs only [go_sem, seval, ↓reduceIte]
  refine endK_some ?_
  rfl
/- ref06.Sub -/
theorem rSubN_spec (G : Nat → V) (hG : GOk G) (a b : Int) (ha : InK .i64 a) (hb : InK .i64 b) : Spec Tryd.prog G 18 [.int .i64 a, .int .i64 b] hNone (fun v _ => v = encR (told (a - b))) := by
  have ha' := (inK_iff a).1 ha
  have hb' := (inK_iff b).1 hb
  refine Spec.of_code' 0 15 [.tmp 4, .tmp 5] Tryd.func18 rfl rfl rfl rfl fun X => ?_
  refine AW.seq_k fun K hK => AW.region (by kernel_rfl) ?_
  simp -implicitDefEqProofs only [go_sem, seval, ↓reduceIte]
  refine hK _ ?_
  clear hK K
  refine AW.seq_k fun K hK => AW.region (by kernel_rfl) ?_
  simp -implicitDefEqProofs only [go_sem, seval, ↓reduceIte]
  refine CallA.pure hG (by kernel_rfl) ?_
  simp -implicitDefEqProofs only [go_sem, seval, ↓reduceIte]
  refine (rOf_spec G hG a ha).mono ?_
  rintro _ _ rfl
  simp -implicitDefEqProofs only [go_sem, seval, ↓reduceIte, encLong]
  refine CallA.pure hG (by kernel_rfl) ?_
  simp -implicitDefEqProofs only [go_sem, seval, ↓reduceIte]
  refine (rOf_spec G hG b hb).mono ?_
  rintro _ _ rfl
  simp -implicitDefEqProofs only [go_sem, seval, ↓reduceIte, encLong]
  refine CallA.pure hG (by kernel_rfl) ?_
  simp -implicitDefEqProofs only [go_sem, seval, ↓reduceIte]
  rw [← encLong]
  refine (rMinus_spec G hG _ _ _ _).mono ?_
  rintro _ _ rfl
  simp -implicitDefEqProofs only [go_sem, seval, ↓reduceIte, encLong]
  refine CallA.pure hG (by kernel_rfl) ?_
  simp -implicitDefEqProofs only [go_sem, seval, ↓reduceIte]
  rw [← encLong, ← encLong]
  refine (rPlus_spec G hG _ _ _ _ _ _ _ _ nil_of nil_of (len_of ha) (len_of hb)).mono ?_
  rintro _ _ ⟨nl, m, below, rfl, hnl, hm, hml⟩
  have hneg : sgn (!decide (b < 0)) b.natAbs = -b := by unfold sgn; by_cases h : b < 0 <;> simp [h] <;> omega
  rw [sgn_of, hneg] at hm
  simp -implicitDefEqProofs only [go_sem, seval, ↓reduceIte, encLong]
  refine CallA.pure hG (by kernel_rfl) ?_
  simp -implicitDefEqProofs only [go_sem, seval, ↓reduceIte]
  rw [← encLong]
  refine (rTold_spec G hG _ _ _ _ hnl (dig_dg _) (len_le (by omega))).mono ?_
  rintro _ _ rfl
  rw [val_dg, hm, show a + -b = a - b by omega]
  simp -implicitDefEqProofs only [go_sem, seval, ↓reduceIte, encR]
  refine hK _ ?_
  clear hK K
  refine AW.ret ?_
  simp -implicitDefEqProofs only [go_sem, seval, ↓reduceIte]
  refine endK_some ?_
  rfl
/- ref06.Neg -/
theorem rNegN_spec (G : Nat → V) (hG : GOk G) (a : Int) (ha : InK .i64 a) : Spec Tryd.prog G 26 [.int .i64 a] hNone (fun v _ => v = encR (told (-a))) := by
  have ha' := (inK_iff a).1 ha
  refine Spec.of_code' 0 10 [.tmp 2, .tmp 3] Tryd.func26 rfl rfl rfl rfl fun X => ?_
  refine AW.seq_k fun K hK => AW.region (by kernel_rfl) ?_
  simp -implicitDefEqProofs only [go_sem, seval, ↓reduceIte]
  refine hK _ ?_
  clear hK K
  refine AW.seq_k fun K hK => AW.region (by kernel_rfl) ?_
  simp -implicitDefEqProofs only [go_sem, seval, ↓reduceIte]
  refine CallA.pure hG (by kernel_rfl) ?_
  simp -implicitDefEqProofs only [go_sem, seval, ↓reduceIte]
  refine (rOf_spec G hG a ha).mono ?_
  rintro _ _ rfl
  simp -implicitDefEqProofs only [go_sem, seval, ↓reduceIte, encLong]
  refine CallA.pure hG (by kernel_rfl) ?_
  simp -implicitDefEqProofs only [go_sem, seval, ↓reduceIte]
  rw [← encLong]
  refine (rMinus_spec G hG _ _ _ _).mono ?_
  rintro _ _ rfl
  have hneg : sgn (!decide (a < 0)) a.natAbs = -a := by unfold sgn; by_cases h : a < 0 <;> simp [h] <;> omega
  simp -implicitDefEqProofs only [go_sem, seval, ↓reduceIte, encLong]
  refine CallA.pure hG (by kernel_rfl) ?_
  simp -implicitDefEqProofs only [go_sem, seval, ↓reduceIte]
  rw [← encLong]
  refine (rTold_spec G hG _ _ _ _ nil_of (dig_dg _) (len_of ha)).mono ?_
  rintro _ _ rfl
  rw [val_dg, hneg]
  simp -implicitDefEqProofs only [go_sem, seval, ↓reduceIte, encR]
  refine hK _ ?_
  clear hK K
  refine AW.ret ?_
  simp -implicitDefEqProofs only [go_sem, seval, ↓reduceIte]
  refine endK_some ?_
  rfl
end Go.Hs
end

section
namespace Go.Hs
open Go.Proofs
set_option maxRecDepth 10000
theorem repV_ints (k : Nat) : repV k [V.int .i64 0] = (ints (List.replicate k 0)).map (V.int .i64) := by
  induction k with
  | zero => rfl
  | succ k ih => rw [repV, ih]; rfl
theorem flat_ints (k : IntKind) (l : List Int) : flat (l.map (V.int k)) = l.map (V.int k) := by
  induction l with
  | nil => rfl
  | cons x r ih =>
    rw [List.map_cons]
    show [V.int k x] ++ flat (r.map (V.int k)) = _
    rw [ih]; rfl
theorem row_cells (k : Nat) (la : List Nat) : (repV k [V.int .i64 0]).take (k * 1) ++ flat ((ints la).map (V.int .i64)) = flat ((ints (List.replicate k 0 ++ la)).map (V.int .i64)) := by
  rw [repV_ints, flat_ints, flat_ints, ints_app, List.map_append, Nat.mul_one, List.take_of_length_le (by simp)]
theorem val_rep : ∀ (k : Nat) (l : List Nat), val (List.replicate k 0 ++ l) = 10 ^ k * val l
  | 0, l => by simp
  | k + 1, l => by
    rw [List.replicate_succ, List.cons_append, val, val_rep k l, Nat.pow_succ, Nat.zero_add, Nat.mul_comm (10 ^ k) 10, Nat.mul_assoc]
theorem dig_rep {k : Nat} {l : List Nat} (h : Dig l) : Dig (List.replicate k 0 ++ l) := Dig.app.2 ⟨fun d hd => by have := List.eq_of_mem_replicate hd; omega, h⟩
theorem val_take_succ {l : List Nat} {k : Nat} (h : k < l.length) : val (l.take (k + 1)) = val (l.take k) + 10 ^ k * l.getD k 0 := by
  rw [List.take_succ_eq_append_getElem h, val_app, List.length_take, Nat.min_eq_left (by omega), List.getD_eq_getElem?_getD, List.getElem?_eq_getElem h]
  simp [val]
theorem val_take_le (l : List Nat) (k : Nat) : val (l.take k) ≤ val l := by
  have : val l = val (l.take k) + 10 ^ (l.take k).length * val (l.drop k) := by rw [← val_app, List.take_append_drop]
  omega
/- ref06.Times -/
theorem rTimes_spec (G : Nat → V) (hG : GOk G) (c1 c2 : Col) (n1 n2 b1 b2 : Bool) (a b : Nat) (h1 : n1 = true → dg a = []) (h2 : n2 = true → dg b = []) (ha : a ≤ 10000000000000000000) (hb : b ≤ 10000000000000000000) :
    Spec Tryd.prog G 39 [encLong c1 n1 (dg a) b1, encLong c2 n2 (dg b) b2] hNone (fun v _ => ∃ nl, v = encLong .any nl (dg (a * b)) (b1 != b2) ∧ (nl = true → dg (a * b) = [])) := by
  have hla := dg_len (n := a) (k := 20) (by omega)
  have hlb := dg_len (n := b) (k := 20) (by omega)
  have hab : a * b ≤ 100000000000000000000000000000000000000 := Nat.mul_le_mul ha hb
  have s1 := slD_l h1
  have s2 := slD_l h2
  refine Spec.of_code' 0 41 [.cell 4 47] Tryd.func39 rfl rfl rfl rfl fun X => ?_
  simp only [encLong]
  refine AW.seq_k fun K hK => AW.region (by kernel_rfl) ?_
  simp -implicitDefEqProofs only [go_sem, seval, ↓reduceIte]
  intro g2 g3 g4
  refine hK _ ?_
  clear hK K
  refine AW.seq_k fun K hK => AW.region (by kernel_rfl) ?_
  simp -implicitDefEqProofs only [go_sem, seval, ↓reduceIte]
  refine hK _ ?_
  clear hK K
  refine AW.seq_k fun K1 hK1 => ?_
  refine AW.seq_k fun K hK => AW.region (by kernel_rfl) ?_
  simp -implicitDefEqProofs only [go_sem, seval, ↓reduceIte]
  refine hK _ ?_
  clear hK K
  refine AW.block ?_
  refine AW.for (dg b).length (fun k (nl : Bool) => st [(2, .ptr 2 g2 0), (3, .ptr 3 g3 0), (4, .ptr 4 g4 0), (5, encSl .any 1 (V.int .i64) (slD nl (dg (a * val ((dg b).take k))))), (6, .int .i64 k)] [(2, .cells .new g2 0 [encSl c1 1 (V.int .i64) (slD n1 (dg a)), .bool b1]), (3, .cells .new g3 0 [encSl c2 1 (V.int .i64) (slD n2 (dg b)), .bool b2]), (4, .cells .new g4 0 [.nils, .bool false])]) (fun k nl => nl = true → dg (a * val ((dg b).take k)) = []) 0 true (Nat.zero_le _) (fun _ => by simp [val, dg_zero])
    (Weak.st (by simp -implicitDefEqProofs only [go_sem, seval, ↓reduceIte]; first | rfl | exact ⟨rfl, rfl⟩) (by simp -implicitDefEqProofs only [go_sem, seval, ↓reduceIte])) ?_
  intro k nl hk hR L2 hL2
  refine AW.seq_k fun K3 hK3 => ?_
  refine AW.seq_k fun K hK => AW.region (by kernel_rfl) ?_
  simp -implicitDefEqProofs only [go_sem, seval, ↓reduceIte, s2, ints_len]
  refine hK _ ?_
  clear hK K
  refine AW.condS (by simp -implicitDefEqProofs only [go_sem, seval, ↓reduceIte]; rfl) (fun h4 => ?_) (fun h4 => ?_)
  · have hk1 : k < (dg b).length := by have := of_decide_eq_true h4; omega
    have gk := ints_get_some hk1
    have h5 := getD_lt (dig_dg b) k
    have hts := val_take_succ hk1
    have htl := val_take_le (dg b) (k + 1)
    rw [val_dg] at htl
    generalize hd : (dg b).getD k 0 = d at gk h5 hts
    obtain ⟨W, hW⟩ : ∃ W, W = a * val ((dg b).take k) := ⟨_, rfl⟩
    rw [← hW] at hR ⊢
    have hWd : W + d * (10 ^ k * a) = a * val ((dg b).take (k + 1)) := by rw [hts, hW, Nat.mul_add, Nat.mul_comm (10 ^ k) d, Nat.mul_left_comm a d, Nat.mul_comm a (10 ^ k)]
    have hWl : W + d * (10 ^ k * a) ≤ a * b := by rw [hWd]; exact Nat.mul_le_mul_left a htl
    refine AW.skip ?_
    simp -implicitDefEqProofs only [go_sem, seval, ↓reduceIte]
    refine hK3 _ ?_
    refine AW.seq_k fun K5 hK5 => ?_
    refine AW.block ?_
    refine AW.seq_k fun K hK => AW.region (by kernel_rfl) ?_
    simp -implicitDefEqProofs only [go_sem, seval, ↓reduceIte]
    refine hK _ ?_
    clear hK K
    refine AW.block ?_
    refine AW.for d (fun t (nl : Bool) => st [(2, .ptr 2 g2 0), (3, .ptr 3 g3 0), (4, .ptr 4 g4 0), (5, encSl .any 1 (V.int .i64) (slD nl (dg (W + t * (10 ^ k * a))))), (6, .int .i64 k), (7, .int .i64 t)] [(2, .cells .new g2 0 [encSl c1 1 (V.int .i64) (slD n1 (dg a)), .bool b1]), (3, .cells .new g3 0 [encSl c2 1 (V.int .i64) (slD n2 (dg b)), .bool b2]), (4, .cells .new g4 0 [.nils, .bool false])]) (fun t nl => nl = true → dg (W + t * (10 ^ k * a)) = []) 0 nl (Nat.zero_le _) (by rw [Nat.zero_mul, Nat.add_zero]; exact hR)
      (Weak.st (by simp -implicitDefEqProofs only [go_sem, seval, ↓reduceIte, Nat.zero_mul]; try rfl) (by simp -implicitDefEqProofs only [go_sem, seval, ↓reduceIte])) ?_
    intro t nl2 ht hR2 L6 hL6
    refine AW.seq_k fun K7 hK7 => ?_
    refine AW.seq_k fun K hK => AW.region (by kernel_rfl) ?_
    simp -implicitDefEqProofs only [go_sem, seval, ↓reduceIte, s2, gk]
    refine hK _ ?_
    clear hK K
    refine AW.condS (by simp -implicitDefEqProofs only [go_sem, seval, ↓reduceIte]; rfl) (fun h8 => ?_) (fun h8 => ?_)
    · have ht1 : t < d := by have := of_decide_eq_true h8; omega
      refine AW.skip ?_
      simp -implicitDefEqProofs only [go_sem, seval, ↓reduceIte]
      refine hK7 _ ?_
      refine AW.seq_k fun K9 hK9 => ?_
      refine AW.block ?_
      refine AW.seq_k fun K hK => AW.region (by kernel_rfl) ?_
      simp -implicitDefEqProofs only [go_sem, seval, ↓reduceIte]
      refine ⟨⟨by omega, by omega, by omega⟩, fun g26 => ?_⟩
      refine hK _ ?_
      clear hK K
      refine AW.region (by kernel_rfl) ?_
      simp -implicitDefEqProofs only [go_sem, seval, ↓reduceIte, s1, ints_len]
      refine ⟨roomOk_of (by omega) (by omega), by rw [repV_ints]; simp, by omega, fun g31 => ?_⟩
      rw [row_cells]
      have hmono : t * (10 ^ k * a) ≤ d * (10 ^ k * a) := Nat.mul_le_mul_right _ (by omega)
      have hlen : (dg (W + t * (10 ^ k * a))).length < 1000000 := len_le (by omega)
      have hrow := dig_rep (k := k) (dig_dg a)
      have hrl : (List.replicate k 0 ++ dg a).length < 1000000 := by simp; omega
      have hrv := val_rep k (dg a)
      rw [val_dg] at hrv
      have hll : k + (dg a).length = (ints (List.replicate k 0 ++ dg a)).length := by simp
      rw [hll]
      generalize hrw : List.replicate k 0 ++ dg a = row at hrow hrl hrv
      refine CallA.frzL (fun o => o == 26) [encSl .any 1 (V.int .i64) (slD nl2 (dg (W + t * (10 ^ k * a)))), encSl .new 1 (V.int .i64) (.mk false (ints row))] [(2, .cells .new g2 0 [encSl c1 1 (V.int .i64) (slD n1 (dg a)), .bool b1]), (3, .cells .new g3 0 [encSl c2 1 (V.int .i64) (slD n2 (dg b)), .bool b2]), (4, .cells .new g4 0 [.nils, .bool false])] ⟨Fz.same _, Fz.sl rfl rfl (fun _ => rfl), trivial⟩ ⟨FzO.keep rfl (by simp -implicitDefEqProofs only [go_sem, seval, ↓reduceIte]), FzO.keep rfl (by simp -implicitDefEqProofs only [go_sem, seval, ↓reduceIte]), FzO.keep rfl (by simp -implicitDefEqProofs only [go_sem, seval, ↓reduceIte]), trivial⟩ ?_
      refine CallA.pure hG (by kernel_rfl) ?_
      simp -implicitDefEqProofs only [go_sem, seval, ↓reduceIte]
      refine (rAdd_spec G hG _ _ _ _ (dg (W + t * (10 ^ k * a))) row (slD_l hR2) rfl (dig_dg _) hrow hlen hrl).mono ?_
      rintro _ _ rfl
      rw [val_dg, hrv]
      simp -implicitDefEqProofs only [go_sem, seval, ↓reduceIte]
      refine hK9 _ ?_
      refine AW.region (by kernel_rfl) ?_
      simp -implicitDefEqProofs only [go_sem, seval, ↓reduceIte]
      have hnx : W + t * (10 ^ k * a) + 10 ^ k * a = W + (t + 1) * (10 ^ k * a) := by rw [Nat.succ_mul]; omega
      refine hL6 _ ⟨ht1, decide (dg (W + t * (10 ^ k * a)) = [] ∧ row = []), fun h => ?_, Weak.st (by simp -implicitDefEqProofs only [go_sem, seval, ↓reduceIte, hnx]; exact congrArg _ (w64 (by omega) (by omega))) (by simp -implicitDefEqProofs only [go_sem, seval, ↓reduceIte])⟩
      have h := of_decide_eq_true h
      have hr0 : 10 ^ k * a = 0 := by rw [← hrv, h.2]; rfl
      rw [← hnx, show W + t * (10 ^ k * a) + 10 ^ k * a = W + t * (10 ^ k * a) by omega]
      exact h.1
    · have ht1 : t = d := by have := of_decide_eq_false h8; omega
      subst ht1
      refine AW.exit ?_
      simp -implicitDefEqProofs only [go_sem, seval, ↓reduceIte]
      refine hK5 _ ?_
      refine AW.region (by kernel_rfl) ?_
      simp -implicitDefEqProofs only [go_sem, seval, ↓reduceIte]
      rw [hWd] at hR2 ⊢
      refine hL2 _ ⟨hk1, nl2, hR2, Weak.st (by simp -implicitDefEqProofs only [go_sem, seval, ↓reduceIte]; exact congrArg _ (w64 (by omega) (by omega))) (by simp -implicitDefEqProofs only [go_sem, seval, ↓reduceIte])⟩
  · have hk1 : k = (dg b).length := by have := of_decide_eq_false h4; omega
    rw [hk1, List.take_length, val_dg] at hR ⊢
    refine AW.exit ?_
    simp -implicitDefEqProofs only [go_sem, seval, ↓reduceIte]
    refine hK1 _ ?_
    have p1 : PureC Tryd.prog G 31 [encSl .any 1 (V.int .i64) (slD nl (dg (a * b)))] (encSl .any 1 (V.int .i64) (slD nl (dg (a * b)))) := ⟨by kernel_rfl, by
      simp -implicitDefEqProofs only [go_sem, seval, ↓reduceIte]
      refine (trim_spec G hG _ nl (dg (a * b)) hR (by have := len_le (m := a * b) (by omega); omega)).mono ?_
      rintro _ _ rfl
      rw [trim_val _ _ (Nat.le_refl _) (dig_dg _), val_dg]
      simp -implicitDefEqProofs only [go_sem, seval, ↓reduceIte]⟩
    refine AW.seq_k fun K hK => AW.regionT ⟨fun i => if i = 1 then encSl .any 1 (V.int .i64) (slD nl (dg (a * b))) else .top, fun _ => .pure⟩ (by kernel_rfl) hG (by kernel_rfl) (by kernel_rfl) ?_
    simp -implicitDefEqProofs only [go_sem, seval, ↓reduceIte]
    refine ⟨p1, ?_⟩
    refine hK _ ?_
    clear hK K
    refine AW.ret ?_
    simp -implicitDefEqProofs only [go_sem, seval, ↓reduceIte]
    refine endK_some ?_
    exact ⟨nl, rfl, hR⟩
/- ref06.Mul -/
theorem rMulN_spec (G : Nat → V) (hG : GOk G) (a b : Int) (ha : InK .i64 a) (hb : InK .i64 b) : Spec Tryd.prog G 20 [.int .i64 a, .int .i64 b] hNone (fun v _ => v = encR (told (a * b))) := by
  have ha' := (inK_iff a).1 ha
  have hb' := (inK_iff b).1 hb
  refine Spec.of_code' 0 14 [.tmp 4, .tmp 5] Tryd.func20 rfl rfl rfl rfl fun X => ?_
  refine AW.seq_k fun K hK => AW.region (by kernel_rfl) ?_
  simp -implicitDefEqProofs only [go_sem, seval, ↓reduceIte]
  refine hK _ ?_
  clear hK K
  refine AW.seq_k fun K hK => AW.region (by kernel_rfl) ?_
  simp -implicitDefEqProofs only [go_sem, seval, ↓reduceIte]
  refine CallA.pure hG (by kernel_rfl) ?_
  simp -implicitDefEqProofs only [go_sem, seval, ↓reduceIte]
  refine (rOf_spec G hG a ha).mono ?_
  rintro _ _ rfl
  simp -implicitDefEqProofs only [go_sem, seval, ↓reduceIte, encLong]
  refine CallA.pure hG (by kernel_rfl) ?_
  simp -implicitDefEqProofs only [go_sem, seval, ↓reduceIte]
  refine (rOf_spec G hG b hb).mono ?_
  rintro _ _ rfl
  simp -implicitDefEqProofs only [go_sem, seval, ↓reduceIte, encLong]
  refine CallA.pure hG (by kernel_rfl) ?_
  simp -implicitDefEqProofs only [go_sem, seval, ↓reduceIte]
  rw [← encLong, ← encLong]
  refine (rTimes_spec G hG _ _ _ _ _ _ a.natAbs b.natAbs nil_of nil_of (by omega) (by omega)).mono ?_
  rintro _ _ ⟨nl, rfl, hnl⟩
  have hm : sgn (decide (a < 0) != decide (b < 0)) (a.natAbs * b.natAbs) = a * b := by
    rw [← Int.natAbs_mul]
    unfold sgn
    by_cases h4 : a < 0 <;> by_cases h5 : b < 0 <;> simp only [h4, h5, decide_true, decide_false, bne_self_eq_false, bool_bne_tf, bool_bne_ft, if_true, Bool.false_eq_true, if_false]
    · have := Int.mul_pos_of_neg_of_neg h4 h5; omega
    · have := Int.mul_nonpos_of_nonpos_of_nonneg (Int.le_of_lt h4) (Int.not_lt.1 h5); omega
    · have := Int.mul_nonpos_of_nonneg_of_nonpos (Int.not_lt.1 h4) (Int.le_of_lt h5); omega
    · have := Int.mul_nonneg (Int.not_lt.1 h4) (Int.not_lt.1 h5); omega
  have hlen : (dg (a.natAbs * b.natAbs)).length < 1000000 := len_le (by have : a.natAbs * b.natAbs ≤ 10000000000000000000 * 10000000000000000000 := Nat.mul_le_mul (by omega) (by omega); omega)
  simp -implicitDefEqProofs only [go_sem, seval, ↓reduceIte, encLong]
  refine CallA.pure hG (by kernel_rfl) ?_
  simp -implicitDefEqProofs only [go_sem, seval, ↓reduceIte]
  rw [← encLong]
  refine (rTold_spec G hG _ _ _ _ hnl (dig_dg _) hlen).mono ?_
  rintro _ _ rfl
  rw [val_dg, hm]
  simp -implicitDefEqProofs only [go_sem, seval, ↓reduceIte, encR]
  refine hK _ ?_
  clear hK K
  refine AW.ret ?_
  simp -implicitDefEqProofs only [go_sem, seval, ↓reduceIte]
  refine endK_some ?_
  rfl
end Go.Hs
end

section
namespace Go.Hs
open Go.Proofs
set_option maxRecDepth 10000
/-- The quotient's digits, when the k greatest are told. -/
structure PartI (a b : Nat) (l : List Nat) (k : Nat) (q : List Nat) (rest : Nat) : Prop where
  len : q.length = l.length
  dig : Dig q
  zero : ∀ j, j < l.length - k → q.getD j 0 = 0
  v : val (q.drop (l.length - k)) * b + rest = val (l.drop (l.length - k))
  lt : rest < b
theorem PartI.init {a b : Nat} {l : List Nat} (hb : 0 < b) : PartI a b l 0 (List.replicate l.length 0) 0 := by
  refine ⟨by simp, fun d hd => by have := List.eq_of_mem_replicate hd; omega, fun j hj => by rw [List.getD_eq_getElem?_getD, List.getElem?_replicate]; split <;> rfl, ?_, hb⟩
  rw [List.drop_eq_nil_of_le (by simp), List.drop_eq_nil_of_le (by omega)]
  simp [val]
theorem PartI.step {a b : Nat} {l : List Nat} {k : Nat} {q : List Nat} {rest : Nat} (h : PartI a b l k q rest) (hk : k < l.length) {t r : Nat} (ht : r + t * b = l.getD (l.length - 1 - k) 0 + 10 * rest) (hr : r < b) (hd : Dig l) :
    PartI a b l (k + 1) (q.set (l.length - 1 - k) t) r := by
  have hi : l.length - (k + 1) = l.length - 1 - k := by omega
  have hi2 : l.length - k = l.length - 1 - k + 1 := by omega
  have h9 := getD_lt hd (l.length - 1 - k)
  have ht10 : t < 10 := by
    have h1 := h.lt
    rcases Nat.lt_or_ge t 10 with h2 | h2
    · exact h2
    · have : 10 * b ≤ t * b := Nat.mul_le_mul_right b h2
      omega
  refine ⟨by simp [h.len], ?_, ?_, ?_, hr⟩
  · intro d hd'
    rcases List.mem_or_eq_of_mem_set hd' with h1 | h1
    · exact h.dig d h1
    · omega
  · intro j hj
    have := h.zero j (by omega)
    rw [List.getD_eq_getElem?_getD, List.getElem?_set_ne (by omega), ← List.getD_eq_getElem?_getD]
    exact this
  · have hv := h.v
    rw [hi2] at hv
    rw [hi, val_drop (q.set _ t), val_drop l (l.length - 1 - k)]
    have e1 : (q.set (l.length - 1 - k) t).getD (l.length - 1 - k) 0 = t := by
      rw [List.getD_eq_getElem?_getD, List.getElem?_set_self (by rw [h.len]; omega)]
      rfl
    have e2 : (q.set (l.length - 1 - k) t).drop (l.length - 1 - k + 1) = q.drop (l.length - 1 - k + 1) := by
      rw [List.drop_set_of_lt (by omega)]
    rw [e1, e2, ← hv, Nat.add_mul, Nat.mul_assoc]
    generalize val (q.drop (l.length - 1 - k + 1)) * b = z at *
    omega
theorem PartI.done {a b : Nat} {q : List Nat} {rest : Nat} (h : PartI a b (dg a) (dg a).length q rest) : val q = a / b ∧ rest = a % b := by
  have hv := h.v
  rw [Nat.sub_self, List.drop_zero, List.drop_zero, val_dg] at hv
  have hlt := h.lt
  have hdm : (val q * b + rest) / b = val q := by
    rw [Nat.add_comm, Nat.add_mul_div_right _ _ (by omega), Nat.div_eq_of_lt hlt, Nat.zero_add]
  have hmm : (val q * b + rest) % b = rest := by
    rw [Nat.add_comm, Nat.add_mul_mod_self_right, Nat.mod_eq_of_lt hlt]
  rw [hv] at hdm hmm
  exact ⟨hdm.symm, hmm.symm⟩
/- ref06.parts -/
theorem rParts_spec (G : Nat → V) (hG : GOk G) (c1 c2 : Col) (n1 n2 : Bool) (a b : Nat) (h1 : n1 = true → dg a = []) (h2 : n2 = true → dg b = []) (ha : a ≤ 10000000000000000000) (hb : b ≤ 10000000000000000000) (hb0 : 0 < b) :
    Spec Tryd.prog G 40 [encSl c1 1 (V.int .i64) (slD n1 (dg a)), encSl c2 1 (V.int .i64) (slD n2 (dg b))] hNone (fun v _ => ∃ nr, v = .tuple [encSl .any 1 (V.int .i64) (slD false (dg (a / b))), encSl .any 1 (V.int .i64) (slD nr (dg (a % b)))] ∧ (nr = true → dg (a % b) = [])) := by
  have hla := dg_len (n := a) (k := 20) (by omega)
  have hlb := dg_len (n := b) (k := 20) (by omega)
  have s1 := slD_l h1
  have s2 := slD_l h2
  refine Spec.of_code' 0 45 [.tmp 4, .tmp 5] Tryd.func40 rfl rfl rfl rfl fun X => ?_
  refine AW.seq_k fun K hK => AW.region (by kernel_rfl) ?_
  simp -implicitDefEqProofs only [go_sem, seval, ↓reduceIte]
  refine hK _ ?_
  clear hK K
  refine AW.seq_k fun K hK => AW.region (by kernel_rfl) ?_
  simp -implicitDefEqProofs only [go_sem, seval, ↓reduceIte, s1, ints_len]
  refine ⟨⟨by omega, by omega, by omega⟩, fun g12 => ?_⟩
  refine hK _ ?_
  clear hK K
  rw [repV_ints]
  refine AW.seq_k fun K hK => AW.region (by kernel_rfl) ?_
  simp -implicitDefEqProofs only [go_sem, seval, ↓reduceIte]
  refine hK _ ?_
  clear hK K
  refine AW.seq_k fun K1 hK1 => ?_
  refine AW.seq_k fun K hK => AW.region (by kernel_rfl) ?_
  simp -implicitDefEqProofs only [go_sem, seval, ↓reduceIte, s1, ints_len]
  refine hK _ ?_
  clear hK K
  refine AW.block ?_
  refine AW.for (dg a).length (fun k (x : (Nat × Bool) × List Nat × Nat) => st [(0, encSl c1 1 (V.int .i64) (slD n1 (dg a))), (1, encSl c2 1 (V.int .i64) (slD n2 (dg b))), (6, .msl 12 x.1.1 0 (dg a).length 1), (7, encSl .any 1 (V.int .i64) (slD x.1.2 (dg x.2.2))), (8, .int .i64 (((dg a).length : Int) - 1 - k))] [(12, .cells .new x.1.1 0 ((ints x.2.1).map (V.int .i64)))])
    (fun k x => PartI a b (dg a) k x.2.1 x.2.2 ∧ (x.1.2 = true → dg x.2.2 = [])) 0 ((g12, true), List.replicate (dg a).length 0, 0) (Nat.zero_le _) ⟨PartI.init hb0, fun _ => rfl⟩
    (Weak.st (by simp -implicitDefEqProofs only [go_sem, seval, ↓reduceIte]; exact ⟨rfl, congrArg _ (by rw [w64 (by omega) (by omega)]; omega)⟩) (by simp -implicitDefEqProofs only [go_sem, seval, ↓reduceIte])) ?_
  rintro k ⟨⟨gq, nr⟩, q, rest⟩ hk ⟨hI, hnr⟩ L2 hL2
  have hI : PartI a b (dg a) k q rest := hI
  have hnr : nr = true → dg rest = [] := hnr
  have hql := hI.len
  have hrl := hI.lt
  refine AW.seq_k fun K3 hK3 => ?_
  refine AW.seq_k fun K hK => AW.region (by kernel_rfl) ?_
  simp -implicitDefEqProofs only [go_sem, seval, ↓reduceIte]
  refine hK _ ?_
  clear hK K
  refine AW.condS (by simp -implicitDefEqProofs only [go_sem, seval, ↓reduceIte]; rfl) (fun h4 => ?_) (fun h4 => ?_)
  · have hk1 : k < (dg a).length := by have := of_decide_eq_true h4; omega
    refine AW.skip ?_
    simp -implicitDefEqProofs only [go_sem, seval, ↓reduceIte]
    refine hK3 _ ?_
    obtain ⟨i, hi⟩ : ∃ i, i = (dg a).length - 1 - k := ⟨_, rfl⟩
    have e0 : (((dg a).length : Int) - 1 - k) = (i : Int) := by omega
    have gi := ints_get_some (l := dg a) (k := i) (by omega)
    have h5 := getD_lt (dig_dg a) i
    have hstep := fun t r => hI.step hk1 (t := t) (r := r)
    rw [← hi] at hstep
    rw [e0]
    generalize hd : (dg a).getD i 0 = d at gi h5 hstep
    refine AW.seq_k fun K5 hK5 => ?_
    refine AW.block ?_
    refine AW.seq_k fun K hK => AW.region (by kernel_rfl) ?_
    simp -implicitDefEqProofs only [go_sem, seval, ↓reduceIte, s1, gi]
    intro g24
    refine hK _ ?_
    clear hK K
    have s3 := slD_l hnr
    have hrd := dg_len (n := rest) (k := 20) (by omega)
    refine AW.seq_k fun K hK => AW.region (by kernel_rfl) ?_
    simp -implicitDefEqProofs only [go_sem, seval, ↓reduceIte, s3, ints_len]
    refine ⟨roomOk_of (by omega) (by omega), fun g27 => ?_⟩
    rw [show V.int .i64 (d : Int) :: flat ((ints (dg rest)).map (V.int .i64)) = flat ((ints (d :: dg rest)).map (V.int .i64)) from rfl, show 1 + (dg rest).length = (ints (d :: dg rest)).length by simp; omega]
    refine CallA.frzL (fun o => o == 24) [encSl .new 1 (V.int .i64) (.mk false (ints (d :: dg rest)))] [(12, .cells .new gq 0 ((ints q).map (V.int .i64)))] ⟨Fz.sl rfl rfl (fun _ => rfl), trivial⟩ ⟨FzO.keep rfl (by simp -implicitDefEqProofs only [go_sem, seval, ↓reduceIte]), trivial⟩ ?_
    refine CallA.pure hG (by kernel_rfl) ?_
    simp -implicitDefEqProofs only [go_sem, seval, ↓reduceIte]
    refine (trim_spec G hG _ false (d :: dg rest) (by simp) (by simp; omega)).mono ?_
    rintro _ _ rfl
    rw [trim_val _ _ (Nat.le_refl _) (by intro x hx; rcases List.mem_cons.1 hx with rfl | hx; exact h5; exact dig_dg _ x hx), val, val_dg]
    simp -implicitDefEqProofs only [go_sem, seval, ↓reduceIte]
    refine hK _ ?_
    clear hK K
    have hqi : i < q.length := by omega
    have hq0 : q.set i 0 = q := by
      have h0 := hI.zero i (by omega)
      rw [List.getD_eq_getElem?_getD, List.getElem?_eq_getElem hqi] at h0
      have h0 : q[i] = 0 := h0
      conv => rhs; rw [← List.set_getElem_self hqi, h0]
    refine AW.block ?_
    refine AW.while (fun (x : (Nat × Bool) × Nat × Nat) => st [(0, encSl c1 1 (V.int .i64) (slD n1 (dg a))), (1, encSl c2 1 (V.int .i64) (slD n2 (dg b))), (6, .msl 12 x.1.1 0 (dg a).length 1), (7, encSl .any 1 (V.int .i64) (slD x.1.2 (dg x.2.2))), (8, .int .i64 i)] [(12, .cells .new x.1.1 0 ((ints (q.set i x.2.1)).map (V.int .i64)))])
      (fun x => x.2.2 + x.2.1 * b = d + 10 * rest ∧ (x.1.2 = true → dg x.2.2 = [])) (fun x => x.2.2) ((gq, false), 0, d + 10 * rest) ⟨by show d + 10 * rest + 0 * b = _; omega, by simp⟩
      (Weak.st (by simp -implicitDefEqProofs only [go_sem, seval, ↓reduceIte]) (by simp -implicitDefEqProofs only [go_sem, seval, ↓reduceIte, hq0])) ?_
    rintro ⟨⟨gq2, nr2⟩, t, r⟩ ⟨ht, hnr2⟩ L6 hL6
    have ht : r + t * b = d + 10 * rest := ht
    have hnr2 : nr2 = true → dg r = [] := hnr2
    have hrr := dg_len (n := r) (k := 21) (by omega)
    refine AW.seq_k fun K6 hK6 => ?_
    refine AW.seq_k fun K hK => AW.region (by kernel_rfl) ?_
    simp -implicitDefEqProofs only [go_sem, seval, ↓reduceIte]
    refine CallA.pure hG (by kernel_rfl) ?_
    simp -implicitDefEqProofs only [go_sem, seval, ↓reduceIte]
    refine (rLess_spec G hG _ _ _ _ r b (slD_l hnr2) s2 (by omega) (by omega)).mono ?_
    rintro _ _ rfl
    simp -implicitDefEqProofs only [go_sem, seval, ↓reduceIte]
    refine hK _ ?_
    clear hK K
    refine AW.condS (by simp -implicitDefEqProofs only [go_sem, seval, ↓reduceIte]; rfl) (fun h7 => ?_) (fun h7 => ?_)
    · have h7' : b ≤ r := by simpa using h7
      refine AW.skip ?_
      simp -implicitDefEqProofs only [go_sem, seval, ↓reduceIte]
      refine hK6 _ ?_
      refine AW.block ?_
      refine AW.seq_k fun K hK => AW.region (by kernel_rfl) ?_
      simp -implicitDefEqProofs only [go_sem, seval, ↓reduceIte]
      refine CallA.pure hG (by kernel_rfl) ((take_pure G hG _ _ _ _ r b hnr2 h2 (by omega) h7').2.mono ?_)
      rintro v _ hv
      rw [hv]
      simp -implicitDefEqProofs only [go_sem, seval, ↓reduceIte]
      refine hK _ ?_
      clear hK K
      have gc : ((ints (q.set i t)).map (V.int .i64))[i]? = some (V.int .i64 (t : Int)) := by
        rw [List.getElem?_map, ints_get, List.getElem?_set_self hqi]
        rfl
      have hil : (i : Int) < ((dg a).length : Int) := by omega
      have hcl : i + 1 ≤ ((ints (q.set i t)).map (V.int .i64)).length := by simp; omega
      have ht9 : t < 10 := by
        rcases Nat.lt_or_ge t 10 with h | h
        · exact h
        · have : 10 * b ≤ t * b := Nat.mul_le_mul_right b h
          omega
      have hw : IntKind.i64.wrap ((t : Int) + 1) = ((t + 1 : Nat) : Int) := by rw [w64 (by omega) (by omega)]; omega
      have hset : ((ints (q.set i t)).map (V.int .i64)).set i (V.int .i64 ((t + 1 : Nat) : Int)) = (ints (q.set i (t + 1))).map (V.int .i64) := by
        rw [ints, ints, List.map_map, List.map_map, List.map_set, List.map_set, List.set_set]
        rfl
      refine AW.region (by kernel_rfl) ?_
      simp -implicitDefEqProofs only [go_sem, seval, ↓reduceIte, gc, hil, Nat.mul_one, hcl, hw, hset]
      refine hL6 _ ⟨((gq2, decide (dg r = [])), t + 1, r - b), by show r - b < r; omega, ⟨?_, ?_⟩, Weak.st (by simp -implicitDefEqProofs only [go_sem, seval, ↓reduceIte]) (by simp -implicitDefEqProofs only [go_sem, seval, ↓reduceIte])⟩
      · show r - b + (t + 1) * b = d + 10 * rest
        rw [Nat.succ_mul]; omega
      · intro h
        have h := of_decide_eq_true h
        rw [dg_ne] at h
        omega
    · have h7' : r < b := by simpa using h7
      refine AW.exit ?_
      simp -implicitDefEqProofs only [go_sem, seval, ↓reduceIte]
      refine hK5 _ ?_
      refine AW.region (by kernel_rfl) ?_
      simp -implicitDefEqProofs only [go_sem, seval, ↓reduceIte]
      refine hL2 _ ⟨hk1, ((gq2, nr2), q.set i t, r), ⟨hstep t r ht h7' (dig_dg a), hnr2⟩, Weak.st (by simp -implicitDefEqProofs only [go_sem, seval, ↓reduceIte]; exact congrArg _ (by rw [w64 (by omega) (by omega)]; omega)) (by simp -implicitDefEqProofs only [go_sem, seval, ↓reduceIte])⟩
  · have hk1 : k = (dg a).length := by have := of_decide_eq_false h4; omega
    subst hk1
    obtain ⟨hq1, hr1⟩ := hI.done
    have hqd := hI.dig
    subst hr1
    refine AW.exit ?_
    simp -implicitDefEqProofs only [go_sem, seval, ↓reduceIte]
    refine hK1 _ ?_
    refine AW.seq_k fun K hK => AW.region (by kernel_rfl) ?_
    simp -implicitDefEqProofs only [go_sem, seval, ↓reduceIte]
    rw [show (dg a).length = (ints q).length by simp [hql]]
    refine CallA.frzL (fun o => o == 12) [encSl .new 1 (V.int .i64) (.mk false (ints q))] [] ⟨Fz.sl (fz := 0) (c := .new) (f := V.int .i64) rfl (by simp -implicitDefEqProofs only [go_sem, seval, ↓reduceIte, flat_ints]) (fun _ => rfl), trivial⟩ trivial ?_
    refine CallA.pure hG (by kernel_rfl) ?_
    simp -implicitDefEqProofs only [go_sem, seval, ↓reduceIte]
    refine (trim_spec G hG _ false q (by simp) (by omega)).mono ?_
    rintro _ _ rfl
    rw [trim_val _ _ (Nat.le_refl _) hqd, hq1]
    simp -implicitDefEqProofs only [go_sem, seval, ↓reduceIte]
    refine hK _ ?_
    clear hK K
    refine AW.ret ?_
    simp -implicitDefEqProofs only [go_sem, seval, ↓reduceIte]
    refine endK_some ?_
    exact ⟨nr, rfl, hnr⟩
end Go.Hs
end

section
namespace Go.Hs
open Go.Proofs
set_option maxRecDepth 10000
/- ref06.Div -/
theorem rDivN_spec (G : Nat → V) (hG : GOk G) (a b : Int) (ha : InK .i64 a) (hb : InK .i64 b) : Spec Tryd.prog G 22 [.int .i64 a, .int .i64 b] hNone (fun v _ => v = encR (divR a b)) := by
  have ha' := (inK_iff a).1 ha
  have hb' := (inK_iff b).1 hb
  refine Spec.of_code' 0 30 [.tmp 4, .tmp 5] Tryd.func22 rfl rfl rfl rfl fun X => ?_
  refine AW.seq_k fun K hK => AW.region (by kernel_rfl) ?_
  simp -implicitDefEqProofs only [go_sem, seval, ↓reduceIte]
  refine hK _ ?_
  clear hK K
  refine AW.seq_k fun K1 hK1 => ?_
  refine AW.seq_k fun K hK => AW.region (by kernel_rfl) ?_
  simp -implicitDefEqProofs only [go_sem, seval, ↓reduceIte]
  refine hK _ ?_
  clear hK K
  refine AW.condS (by simp -implicitDefEqProofs only [go_sem, seval, ↓reduceIte]; rfl) (fun h2 => ?_) (fun h2 => ?_)
  · have h3 : b = 0 := by simpa using h2
    refine AW.seq_k fun K hK => AW.region (by kernel_rfl) ?_
    simp -implicitDefEqProofs only [go_sem, seval, ↓reduceIte]
    refine hK _ ?_
    clear hK K
    refine AW.ret ?_
    simp -implicitDefEqProofs only [go_sem, seval, ↓reduceIte]
    refine endK_some ?_
    rw [divR, if_pos h3]
    rfl
  · have h3 : ¬ b = 0 := by simpa using h2
    refine AW.skip ?_
    simp -implicitDefEqProofs only [go_sem, seval, ↓reduceIte]
    refine hK1 _ ?_
    refine AW.seq_k fun K hK => AW.region (by kernel_rfl) ?_
    simp -implicitDefEqProofs only [go_sem, seval, ↓reduceIte]
    refine CallA.pure hG (by kernel_rfl) ?_
    simp -implicitDefEqProofs only [go_sem, seval, ↓reduceIte]
    refine (rOf_spec G hG a ha).mono ?_
    rintro _ _ rfl
    simp -implicitDefEqProofs only [go_sem, seval, ↓reduceIte, encLong]
    refine CallA.pure hG (by kernel_rfl) ?_
    simp -implicitDefEqProofs only [go_sem, seval, ↓reduceIte]
    refine (rOf_spec G hG b hb).mono ?_
    rintro _ _ rfl
    simp -implicitDefEqProofs only [go_sem, seval, ↓reduceIte, encLong]
    refine CallA.pure hG (by kernel_rfl) ?_
    simp -implicitDefEqProofs only [go_sem, seval, ↓reduceIte]
    refine (rParts_spec G hG _ _ _ _ a.natAbs b.natAbs nil_of nil_of (by omega) (by omega) (by omega)).mono ?_
    rintro _ _ ⟨nr, rfl, hnr⟩
    simp -implicitDefEqProofs only [go_sem, seval, ↓reduceIte]
    refine hK _ ?_
    clear hK K
    refine AW.seq_k fun K hK => AW.region (by kernel_rfl) ?_
    simp -implicitDefEqProofs only [go_sem, seval, ↓reduceIte]
    have hq : a.natAbs / b.natAbs ≤ a.natAbs := Nat.div_le_self _ _
    refine CallA.pure hG (by kernel_rfl) ?_
    simp -implicitDefEqProofs only [go_sem, seval, ↓reduceIte]
    rw [← encLong]
    refine (rTold_spec G hG _ _ _ _ (show false = true → dg (a.natAbs / b.natAbs) = [] from fun h => by cases h) (dig_dg _) (len_le (m := a.natAbs / b.natAbs) (by omega))).mono ?_
    rintro _ _ rfl
    have hm : sgn (decide (a < 0) != decide (b < 0)) (a.natAbs / b.natAbs) = a.tdiv b := by rw [tdiv_abs]; rfl
    rw [val_dg, hm]
    simp -implicitDefEqProofs only [go_sem, seval, ↓reduceIte, encR]
    refine hK _ ?_
    clear hK K
    refine AW.ret ?_
    simp -implicitDefEqProofs only [go_sem, seval, ↓reduceIte]
    refine endK_some ?_
    rw [divR, if_neg h3]
    rfl
/- ref06.Mod -/
theorem rModN_spec (G : Nat → V) (hG : GOk G) (a b : Int) (ha : InK .i64 a) (hb : InK .i64 b) : Spec Tryd.prog G 24 [.int .i64 a, .int .i64 b] hNone (fun v _ => v = encR (modR a b)) := by
  have ha' := (inK_iff a).1 ha
  have hb' := (inK_iff b).1 hb
  refine Spec.of_code' 0 27 [.tmp 4, .tmp 5] Tryd.func24 rfl rfl rfl rfl fun X => ?_
  refine AW.seq_k fun K hK => AW.region (by kernel_rfl) ?_
  simp -implicitDefEqProofs only [go_sem, seval, ↓reduceIte]
  refine hK _ ?_
  clear hK K
  refine AW.seq_k fun K1 hK1 => ?_
  refine AW.seq_k fun K hK => AW.region (by kernel_rfl) ?_
  simp -implicitDefEqProofs only [go_sem, seval, ↓reduceIte]
  refine hK _ ?_
  clear hK K
  refine AW.condS (by simp -implicitDefEqProofs only [go_sem, seval, ↓reduceIte]; rfl) (fun h2 => ?_) (fun h2 => ?_)
  · have h3 : b = 0 := by simpa using h2
    refine AW.seq_k fun K hK => AW.region (by kernel_rfl) ?_
    simp -implicitDefEqProofs only [go_sem, seval, ↓reduceIte]
    refine hK _ ?_
    clear hK K
    refine AW.ret ?_
    simp -implicitDefEqProofs only [go_sem, seval, ↓reduceIte]
    refine endK_some ?_
    rw [modR, if_pos h3]
    rfl
  · have h3 : ¬ b = 0 := by simpa using h2
    refine AW.skip ?_
    simp -implicitDefEqProofs only [go_sem, seval, ↓reduceIte]
    refine hK1 _ ?_
    refine AW.seq_k fun K hK => AW.region (by kernel_rfl) ?_
    simp -implicitDefEqProofs only [go_sem, seval, ↓reduceIte]
    refine CallA.pure hG (by kernel_rfl) ?_
    simp -implicitDefEqProofs only [go_sem, seval, ↓reduceIte]
    refine (rOf_spec G hG a ha).mono ?_
    rintro _ _ rfl
    simp -implicitDefEqProofs only [go_sem, seval, ↓reduceIte, encLong]
    refine CallA.pure hG (by kernel_rfl) ?_
    simp -implicitDefEqProofs only [go_sem, seval, ↓reduceIte]
    refine (rOf_spec G hG b hb).mono ?_
    rintro _ _ rfl
    simp -implicitDefEqProofs only [go_sem, seval, ↓reduceIte, encLong]
    refine CallA.pure hG (by kernel_rfl) ?_
    simp -implicitDefEqProofs only [go_sem, seval, ↓reduceIte]
    refine (rParts_spec G hG _ _ _ _ a.natAbs b.natAbs nil_of nil_of (by omega) (by omega) (by omega)).mono ?_
    rintro _ _ ⟨nr, rfl, hnr⟩
    simp -implicitDefEqProofs only [go_sem, seval, ↓reduceIte]
    refine hK _ ?_
    clear hK K
    refine AW.seq_k fun K hK => AW.region (by kernel_rfl) ?_
    simp -implicitDefEqProofs only [go_sem, seval, ↓reduceIte]
    have hq : a.natAbs % b.natAbs ≤ a.natAbs := Nat.mod_le _ _
    refine CallA.pure hG (by kernel_rfl) ?_
    simp -implicitDefEqProofs only [go_sem, seval, ↓reduceIte]
    rw [← encLong]
    refine (rTold_spec G hG _ _ _ _ hnr (dig_dg _) (len_le (m := a.natAbs % b.natAbs) (by omega))).mono ?_
    rintro _ _ rfl
    have hm : sgn (decide (a < 0)) (a.natAbs % b.natAbs) = a.tmod b := by rw [tmod_abs]; rfl
    rw [val_dg, hm]
    simp -implicitDefEqProofs only [go_sem, seval, ↓reduceIte, encR]
    refine hK _ ?_
    clear hK K
    refine AW.ret ?_
    simp -implicitDefEqProofs only [go_sem, seval, ↓reduceIte]
    refine endK_some ?_
    rw [modR, if_neg h3]
    rfl
end Go.Hs
end

section
namespace Go.Hs
open Go.Proofs
set_option maxRecDepth 10000
theorem told_inK (x : Int) : InK .i64 (told x).1 := by
  unfold told
  by_cases h : fits x = true
  · rw [if_pos h]
    unfold fits at h
    have := of_decide_eq_true h
    exact (inK_iff _).2 (by omega)
  · rw [if_neg h]
    exact (inK_iff _).2 (by omega)
theorem told_e (x : Int) : (told x).2 = 0 ∨ (told x).2 = 60 := by
  unfold told
  split
  · exact .inl rfl
  · exact .inr rfl
theorem sumR_step0 {n x : Int} {r : List Int} (h : (told (n + x)).2 = 0) : sumR n (x :: r) = sumR (told (n + x)).1 r := by
  rw [sumR]
  generalize told (n + x) = p at h
  obtain ⟨p1, p2⟩ := p
  simp only at h
  subst h
  rfl
theorem sumR_step1 {n x : Int} {r : List Int} (h : (told (n + x)).2 ≠ 0) : sumR n (x :: r) = (0, (told (n + x)).2) := by
  rw [sumR]
  generalize told (n + x) = p at h
  obtain ⟨p1, p2⟩ := p
  simp only at h
  split
  · rename_i heq; exact absurd (congrArg Prod.snd heq) h
  · rename_i heq; rw [show p2 = _ from congrArg Prod.snd heq]
/- ref06.Sum -/
theorem rSumN_spec (G : Nat → V) (hG : GOk G) (c : Col) (s : Sl Int) (hs : ∀ x ∈ s.l, InK .i64 x) (hl : s.l.length < 1000000) : Spec Tryd.prog G 10 [encSl c 1 (V.int .i64) s] hNone (fun v _ => v = encR (sumR 0 s.l)) := by
  refine Spec.of_code' 0 28 [.tmp 2, .tmp 3] Tryd.func10 rfl rfl rfl rfl fun X => ?_
  refine AW.seq_k fun K hK => AW.region (by kernel_rfl) ?_
  simp -implicitDefEqProofs only [go_sem, seval, ↓reduceIte]
  refine hK _ ?_
  clear hK K
  refine AW.seq_k fun K hK => AW.region (by kernel_rfl) ?_
  simp -implicitDefEqProofs only [go_sem, seval, ↓reduceIte]
  refine hK _ ?_
  clear hK K
  refine AW.seq_k fun K1 hK1 => ?_
  refine AW.seq_k fun K hK => AW.region (by kernel_rfl) ?_
  simp -implicitDefEqProofs only [go_sem, seval, ↓reduceIte]
  refine hK _ ?_
  clear hK K
  refine AW.block ?_
  refine AW.for s.l.length (fun k (n : Int) => st [(0, encSl c 1 (V.int .i64) s), (4, .int .i64 n), (5, .int .i64 k)] []) (fun k n => InK .i64 n ∧ sumR 0 s.l = sumR n (s.l.drop k)) 0 0 (Nat.zero_le _) ⟨(inK_iff _).2 (by omega), by rw [List.drop_zero]⟩
    (Weak.st (by simp -implicitDefEqProofs only [go_sem, seval, ↓reduceIte]; try rfl) (by simp -implicitDefEqProofs only [go_sem, seval, ↓reduceIte]; try rfl)) ?_
  intro k n hk hI L2 hL2
  obtain ⟨hn, hI⟩ := hI
  refine AW.seq_k fun K3 hK3 => ?_
  refine AW.seq_k fun K hK => AW.region (by kernel_rfl) ?_
  simp -implicitDefEqProofs only [go_sem, seval, ↓reduceIte]
  refine hK _ ?_
  clear hK K
  refine AW.condS (by simp -implicitDefEqProofs only [go_sem, seval, ↓reduceIte]; rfl) (fun h4 => ?_) (fun h4 => ?_)
  · have hk1 : k < s.l.length := by have := of_decide_eq_true h4; omega
    refine AW.skip ?_
    simp -implicitDefEqProofs only [go_sem, seval, ↓reduceIte]
    refine hK3 _ ?_
    have g2 := List.getElem?_eq_getElem hk1
    have hx : InK .i64 s.l[k] := hs _ (List.getElem_mem hk1)
    have hdr : s.l.drop k = s.l[k] :: s.l.drop (k + 1) := List.drop_eq_getElem_cons hk1
    generalize s.l[k] = x at g2 hx hdr
    rw [hdr] at hI
    refine AW.seq_k fun K5 hK5 => ?_
    refine AW.block ?_
    refine AW.seq_k fun K hK => AW.region (by kernel_rfl) ?_
    simp -implicitDefEqProofs only [go_sem, seval, ↓reduceIte, g2]
    refine CallA.pure hG (by kernel_rfl) ?_
    simp -implicitDefEqProofs only [go_sem, seval, ↓reduceIte]
    refine (rAddN_spec G hG n x hn hx).mono ?_
    rintro _ _ rfl
    simp -implicitDefEqProofs only [go_sem, seval, ↓reduceIte, encR]
    refine hK _ ?_
    clear hK K
    refine AW.seq_k fun K6 hK6 => ?_
    refine AW.seq_k fun K hK => AW.region (by kernel_rfl) ?_
    simp -implicitDefEqProofs only [go_sem, seval, ↓reduceIte]
    refine hK _ ?_
    clear hK K
    refine AW.condS (by simp -implicitDefEqProofs only [go_sem, seval, ↓reduceIte]; rfl) (fun h7 => ?_) (fun h7 => ?_)
    · have h7' : (told (n + x)).2 ≠ 0 := by simpa using h7
      refine AW.seq_k fun K hK => AW.region (by kernel_rfl) ?_
      simp -implicitDefEqProofs only [go_sem, seval, ↓reduceIte]
      refine hK _ ?_
      clear hK K
      refine AW.ret ?_
      simp -implicitDefEqProofs only [go_sem, seval, ↓reduceIte]
      refine endK_some ?_
      rw [hI, sumR_step1 h7']
      rfl
    · have h7' : (told (n + x)).2 = 0 := by simpa using h7
      refine AW.skip ?_
      simp -implicitDefEqProofs only [go_sem, seval, ↓reduceIte]
      refine hK6 _ ?_
      refine AW.region (by kernel_rfl) ?_
      simp -implicitDefEqProofs only [go_sem, seval, ↓reduceIte]
      refine hK5 _ ?_
      refine AW.region (by kernel_rfl) ?_
      simp -implicitDefEqProofs only [go_sem, seval, ↓reduceIte]
      refine hL2 _ ⟨hk1, (told (n + x)).1, ⟨told_inK _, by rw [hI, sumR_step0 h7']⟩, Weak.st (by simp -implicitDefEqProofs only [go_sem, seval, ↓reduceIte]; exact congrArg _ (by rw [w64 (by omega) (by omega)]; omega)) (by simp -implicitDefEqProofs only [go_sem, seval, ↓reduceIte])⟩
  · have hk1 : k = s.l.length := by have := of_decide_eq_false h4; omega
    refine AW.exit ?_
    simp -implicitDefEqProofs only [go_sem, seval, ↓reduceIte]
    refine hK1 _ ?_
    refine AW.seq_k fun K hK => AW.region (by kernel_rfl) ?_
    simp -implicitDefEqProofs only [go_sem, seval, ↓reduceIte]
    refine hK _ ?_
    clear hK K
    refine AW.ret ?_
    simp -implicitDefEqProofs only [go_sem, seval, ↓reduceIte]
    refine endK_some ?_
    rw [hI, hk1, List.drop_length]
    rfl
/- num.Sum -/
theorem nSumN_spec (G : Nat → V) (hG : GOk G) (c : Col) (s : Sl Int) (hs : ∀ x ∈ s.l, InK .i64 x) (hl : s.l.length < 1000000) : Spec Tryd.prog G 9 [encSl c 1 (V.int .i64) s] hNone (fun v _ => v = encR (sumR 0 s.l)) := by
  refine Spec.of_code' 0 23 [.tmp 2, .tmp 3] Tryd.func9 rfl rfl rfl rfl fun X => ?_
  refine AW.seq_k fun K hK => AW.region (by kernel_rfl) ?_
  simp -implicitDefEqProofs only [go_sem, seval, ↓reduceIte]
  refine hK _ ?_
  clear hK K
  refine AW.seq_k fun K1 hK1 => ?_
  refine AW.seq_k fun K hK => AW.region (by kernel_rfl) ?_
  simp -implicitDefEqProofs only [go_sem, seval, ↓reduceIte]
  refine hK _ ?_
  clear hK K
  refine AW.block ?_
  refine AW.for s.l.length (fun k (n : Int) => st [(2, .int .i64 n), (6, encSl c 1 (V.int .i64) s), (7, .int .i64 s.l.length), (8, .int .i64 k)] []) (fun k n => InK .i64 n ∧ sumR 0 s.l = sumR n (s.l.drop k)) 0 0 (Nat.zero_le _) ⟨(inK_iff _).2 (by omega), by rw [List.drop_zero]⟩
    (Weak.st (by simp -implicitDefEqProofs only [go_sem, seval, ↓reduceIte]; try rfl) (by simp -implicitDefEqProofs only [go_sem, seval, ↓reduceIte]; try rfl)) ?_
  intro k n hk hI L2 hL2
  obtain ⟨hn, hI⟩ := hI
  refine AW.seq_k fun K hK => AW.region (by kernel_rfl) ?_
  simp -implicitDefEqProofs only [go_sem, seval, ↓reduceIte]
  refine hK _ ?_
  clear hK K
  refine AW.seq_k fun K3 hK3 => ?_
  refine AW.condS (by simp -implicitDefEqProofs only [go_sem, seval, ↓reduceIte]; rfl) (fun h4 => ?_) (fun h4 => ?_)
  · have hk1 : k < s.l.length := by have := of_decide_eq_true h4; omega
    refine AW.skip ?_
    simp -implicitDefEqProofs only [go_sem, seval, ↓reduceIte]
    refine hK3 _ ?_
    have g2 := List.getElem?_eq_getElem hk1
    have hx : InK .i64 s.l[k] := hs _ (List.getElem_mem hk1)
    have hdr : s.l.drop k = s.l[k] :: s.l.drop (k + 1) := List.drop_eq_getElem_cons hk1
    generalize s.l[k] = x at g2 hx hdr
    rw [hdr] at hI
    refine AW.seq_k fun K5 hK5 => ?_
    refine AW.block ?_
    refine AW.seq_k fun K hK => AW.region (by kernel_rfl) ?_
    simp -implicitDefEqProofs only [go_sem, seval, ↓reduceIte, g2]
    refine hK _ ?_
    clear hK K
    refine AW.seq_k fun K hK => AW.region (by kernel_rfl) ?_
    simp -implicitDefEqProofs only [go_sem, seval, ↓reduceIte]
    refine CallA.pure hG (by kernel_rfl) ?_
    simp -implicitDefEqProofs only [go_sem, seval, ↓reduceIte]
    refine (nAdd_spec G hG n x hn hx).mono ?_
    rintro _ _ rfl
    simp -implicitDefEqProofs only [go_sem, seval, ↓reduceIte, encR]
    refine hK _ ?_
    clear hK K
    refine AW.seq_k fun K hK => AW.region (by kernel_rfl) ?_
    simp -implicitDefEqProofs only [go_sem, seval, ↓reduceIte]
    refine hK _ ?_
    clear hK K
    refine AW.condS (by simp -implicitDefEqProofs only [go_sem, seval, ↓reduceIte]; rfl) (fun h7 => ?_) (fun h7 => ?_)
    · have h7' : (told (n + x)).2 ≠ 0 := by simpa using h7
      refine AW.seq_k fun K hK => AW.region (by kernel_rfl) ?_
      simp -implicitDefEqProofs only [go_sem, seval, ↓reduceIte]
      refine hK _ ?_
      clear hK K
      refine AW.ret ?_
      simp -implicitDefEqProofs only [go_sem, seval, ↓reduceIte]
      refine endK_some ?_
      rw [hI, sumR_step1 h7']
      rfl
    · have h7' : (told (n + x)).2 = 0 := by simpa using h7
      refine AW.skip ?_
      simp -implicitDefEqProofs only [go_sem, seval, ↓reduceIte]
      refine hK5 _ ?_
      refine AW.region (by kernel_rfl) ?_
      simp -implicitDefEqProofs only [go_sem, seval, ↓reduceIte]
      refine hL2 _ ⟨hk1, (told (n + x)).1, ⟨told_inK _, by rw [hI, sumR_step0 h7']⟩, Weak.st (by simp -implicitDefEqProofs only [go_sem, seval, ↓reduceIte]; exact congrArg _ (by rw [w64 (by omega) (by omega)]; omega)) (by simp -implicitDefEqProofs only [go_sem, seval, ↓reduceIte])⟩
  · have hk1 : k = s.l.length := by have := of_decide_eq_false h4; omega
    refine AW.exit ?_
    simp -implicitDefEqProofs only [go_sem, seval, ↓reduceIte]
    refine hK1 _ ?_
    refine AW.seq_k fun K hK => AW.region (by kernel_rfl) ?_
    simp -implicitDefEqProofs only [go_sem, seval, ↓reduceIte]
    refine hK _ ?_
    clear hK K
    refine AW.ret ?_
    simp -implicitDefEqProofs only [go_sem, seval, ↓reduceIte]
    refine endK_some ?_
    rw [hI, hk1, List.drop_length]
    rfl
end Go.Hs
end

section
/-
  DERIVED: THE SHELF's CONTRACTS AT THIS DUMP, IN PLAIN WORDS (tools/lay-plain.mjs out of 'HsDNumShelf0.lean', which tools/lay-shelf.mjs wrote): THE SAME DECLARATIONS UNDER THE SAME NAMES: 'import', 'namespace', 'open', 'def', 'theorem' AND NOTHING ELSE: no command of the shelf's: FOR A HAND-IN. Each laying: the table of numbers ('.._ren') and one theorem, a field a fact of the dump's own or the kernel's comparison; each contract: ONE APPLICATION.
-/
namespace Go.Proofs
open Go.Shelf
def Tryd.laysPI_ren : Go.Shelf.Ren := ⟨fun | 174 => 28 | 247 => 42 | 245 => 43 | 287 => 52 | 279 => 53 | 280 => 54 | 281 => 55 | 282 => 56 | 321 => 63 | 322 => 64 | 316 => 65 | 171 => 67 | 205 => 66 | 243 => 73 | 246 => 47 | 283 => 57 | 284 => 58 | 285 => 59 | 286 => 60 | 129 => 69 | 317 => 68 | 318 => 70 | 319 => 71 | 320 => 72 | 337 => 74 | 338 => 75 | n => n, fun | 9 => 9 | 3 => 3 | 2 => 2 | 75 => 39 | 85 => 40 | 4 => 4 | 167 => 71 | 5 => 5 | 53 => 53 | 175 => 72 | 46 => 70 | 168 => 74 | 37 => 50 | 0 => 0 | 210 => 99 | 21 => 21 | 127 => 108 | 145 => 111 | 143 => 109 | 171 => 89 | 173 => 92 | 212 => 103 | 51 => 104 | 20 => 20 | 213 => 105 | 232 => 113 | 233 => 114 | 80 => 115 | n => n, fun | 15 => 1 | 16 => 0 | 17 => 2 | 18 => 3 | 19 => 4 | n => n⟩
theorem Tryd.laysPI : Go.Proofs.LaysC.n174 Tryd.prog Tryd.laysPI_ren := {
  mixed := by kernel_rfl
  f129 := Tryd.func69.trans (congrArg some (by kernel_rfl))
  f171 := Tryd.func67.trans (congrArg some (by kernel_rfl))
  f174 := Tryd.func28.trans (congrArg some (by kernel_rfl))
  f205 := Tryd.func66.trans (congrArg some (by kernel_rfl))
  f243 := Tryd.func73.trans (congrArg some (by kernel_rfl))
  f245 := Tryd.func43.trans (congrArg some (by kernel_rfl))
  f246 := Tryd.func47.trans (congrArg some (by kernel_rfl))
  f247 := Tryd.func42.trans (congrArg some (by kernel_rfl))
  f279 := Tryd.func53.trans (congrArg some (by kernel_rfl))
  f280 := Tryd.func54.trans (congrArg some (by kernel_rfl))
  f281 := Tryd.func55.trans (congrArg some (by kernel_rfl))
  f282 := Tryd.func56.trans (congrArg some (by kernel_rfl))
  f283 := Tryd.func57.trans (congrArg some (by kernel_rfl))
  f284 := Tryd.func58.trans (congrArg some (by kernel_rfl))
  f285 := Tryd.func59.trans (congrArg some (by kernel_rfl))
  f286 := Tryd.func60.trans (congrArg some (by kernel_rfl))
  f287 := Tryd.func52.trans (congrArg some (by kernel_rfl))
  f316 := Tryd.func65.trans (congrArg some (by kernel_rfl))
  f317 := Tryd.func68.trans (congrArg some (by kernel_rfl))
  f318 := Tryd.func70.trans (congrArg some (by kernel_rfl))
  f319 := Tryd.func71.trans (congrArg some (by kernel_rfl))
  f320 := Tryd.func72.trans (congrArg some (by kernel_rfl))
  f321 := Tryd.func63.trans (congrArg some (by kernel_rfl))
  f322 := Tryd.func64.trans (congrArg some (by kernel_rfl))
  f337 := Tryd.func74.trans (congrArg some (by kernel_rfl))
  f338 := Tryd.func75.trans (congrArg some (by kernel_rfl))
  t0 := Tryd.underlying0
  a0 := Tryd.isAgg0
  z0 := Tryd.sizeOf0
  v0 := Tryd.zeroValue0
  t2 := Tryd.underlying2
  a2 := Tryd.isAgg2
  z2 := Tryd.sizeOf2
  v2 := Tryd.zeroValue2
  t3 := Tryd.underlying3
  a3 := Tryd.isAgg3
  z3 := Tryd.sizeOf3
  v3 := Tryd.zeroValue3
  t4 := Tryd.underlying4
  a4 := Tryd.isAgg4
  z4 := Tryd.sizeOf4
  v4 := Tryd.zeroValue4
  t5 := Tryd.underlying5
  a5 := Tryd.isAgg5
  z5 := Tryd.sizeOf5
  v5 := Tryd.zeroValue5
  t9 := Tryd.underlying9
  a9 := Tryd.isAgg9
  z9 := Tryd.sizeOf9
  v9 := Tryd.zeroValue9
  t20 := Tryd.underlying20
  a20 := Tryd.isAgg20
  z20 := Tryd.sizeOf20
  v20 := Tryd.zeroValue20
  t21 := Tryd.underlying21
  a21 := Tryd.isAgg21
  z21 := Tryd.sizeOf21
  v21 := Tryd.zeroValue21
  t37 := Tryd.underlying50
  a37 := Tryd.isAgg50
  z37 := Tryd.sizeOf50
  v37 := Tryd.zeroValue50
  t46 := Tryd.underlying70
  a46 := Tryd.isAgg70
  z46 := Tryd.sizeOf70
  v46 := Tryd.zeroValue70
  t51 := Tryd.underlying104
  a51 := Tryd.isAgg104
  z51 := Tryd.sizeOf104
  v51 := Tryd.zeroValue104
  t53 := Tryd.underlying53
  a53 := Tryd.isAgg53
  z53 := Tryd.sizeOf53
  v53 := Tryd.zeroValue53
  t75 := Tryd.underlying39
  a75 := Tryd.isAgg39
  z75 := Tryd.sizeOf39
  v75 := Tryd.zeroValue39
  t85 := Tryd.underlying40
  a85 := Tryd.isAgg40
  z85 := Tryd.sizeOf40
  v85 := Tryd.zeroValue40
  t127 := Tryd.underlying108
  a127 := Tryd.isAgg108
  z127 := Tryd.sizeOf108
  v127 := Tryd.zeroValue108
  t143 := Tryd.underlying109
  a143 := Tryd.isAgg109
  z143 := Tryd.sizeOf109
  v143 := Tryd.zeroValue109
  t145 := Tryd.underlying111
  a145 := Tryd.isAgg111
  z145 := Tryd.sizeOf111
  v145 := Tryd.zeroValue111
  t167 := Tryd.underlying71
  a167 := Tryd.isAgg71
  z167 := Tryd.sizeOf71
  v167 := Tryd.zeroValue71
  t168 := Tryd.underlying74
  a168 := Tryd.isAgg74
  z168 := Tryd.sizeOf74
  v168 := Tryd.zeroValue74
  t171 := Tryd.underlying89
  a171 := Tryd.isAgg89
  z171 := Tryd.sizeOf89
  v171 := Tryd.zeroValue89
  t173 := Tryd.underlying92
  a173 := Tryd.isAgg92
  z173 := Tryd.sizeOf92
  v173 := Tryd.zeroValue92
  t175 := Tryd.underlying72
  a175 := Tryd.isAgg72
  z175 := Tryd.sizeOf72
  v175 := Tryd.zeroValue72
  t210 := Tryd.underlying99
  a210 := Tryd.isAgg99
  z210 := Tryd.sizeOf99
  v210 := Tryd.zeroValue99
  t212 := Tryd.underlying103
  a212 := Tryd.isAgg103
  z212 := Tryd.sizeOf103
  v212 := Tryd.zeroValue103
  t213 := Tryd.underlying105
  a213 := Tryd.isAgg105
  z213 := Tryd.sizeOf105
  t232 := Tryd.underlying113
  a232 := Tryd.isAgg113
  z232 := Tryd.sizeOf113
  v232 := Tryd.zeroValue113
  t233 := Tryd.underlying114
  a233 := Tryd.isAgg114
  z233 := Tryd.sizeOf114
  v233 := Tryd.zeroValue114
  g15 := by kernel_rfl
  g16 := by kernel_rfl
  g17 := by kernel_rfl
  g18 := by kernel_rfl
  g19 := by kernel_rfl
  t80 := Tryd.underlying115
  a80 := Tryd.isAgg115
  z80 := Tryd.sizeOf115
  v80 := Tryd.zeroValue115
  i0 := by kernel_rfl
  i2 := by kernel_rfl
  i3 := by kernel_rfl
  i4 := by kernel_rfl
  i5 := by kernel_rfl
  i9 := by kernel_rfl
  i20 := by kernel_rfl
  i21 := by kernel_rfl
  i37 := by kernel_rfl
  i46 := by kernel_rfl
  i51 := by kernel_rfl
  i53 := by kernel_rfl
  i75 := by kernel_rfl
  i80 := by kernel_rfl
  i85 := by kernel_rfl
  i127 := by kernel_rfl
  i143 := by kernel_rfl
  i145 := by kernel_rfl
  i167 := by kernel_rfl
  i168 := by kernel_rfl
  i171 := by kernel_rfl
  i173 := by kernel_rfl
  i175 := by kernel_rfl
  i210 := by kernel_rfl
  i212 := by kernel_rfl
  i232 := by kernel_rfl
  i233 := by kernel_rfl
  m15 := by kernel_rfl
  m16 := by kernel_rfl
  m17 := by kernel_rfl
  m18 := by kernel_rfl
  m19 := by kernel_rfl
  c0 := by kernel_rfl
  c2 := by kernel_rfl
  c3 := by kernel_rfl
  c4 := by kernel_rfl
  c5 := by kernel_rfl
  c9 := by kernel_rfl
  c20 := by kernel_rfl
  c21 := by kernel_rfl
  c37 := by kernel_rfl
  c46 := by kernel_rfl
  c51 := by kernel_rfl
  c53 := by kernel_rfl
  c75 := by kernel_rfl
  c80 := by kernel_rfl
  c85 := by kernel_rfl
  c127 := by kernel_rfl
  c143 := by kernel_rfl
  c145 := by kernel_rfl
  c167 := by kernel_rfl
  c168 := by kernel_rfl
  c171 := by kernel_rfl
  c173 := by kernel_rfl
  c175 := by kernel_rfl
  c210 := by kernel_rfl
  c212 := by kernel_rfl
  c213 := by kernel_rfl
  c232 := by kernel_rfl
  c233 := by kernel_rfl }
def Tryd.laysFI_ren : Go.Shelf.Ren := ⟨fun | 173 => 32 | 246 => 47 | 283 => 57 | 284 => 58 | 285 => 59 | 286 => 60 | 129 => 69 | 317 => 68 | 318 => 70 | 319 => 71 | 320 => 72 | 337 => 74 | 338 => 75 | n => n, fun | 2 => 2 | 3 => 3 | 9 => 9 | 4 => 4 | 171 => 89 | 0 => 0 | 53 => 53 | 37 => 50 | 5 => 5 | 173 => 92 | 212 => 103 | 51 => 104 | 20 => 20 | 213 => 105 | 46 => 70 | 232 => 113 | 233 => 114 | n => n, fun | 17 => 2 | 18 => 3 | 19 => 4 | n => n⟩
theorem Tryd.laysFI : Go.Proofs.LaysM.n173 Tryd.prog Tryd.laysFI_ren := {
  mixed := by kernel_rfl
  f129 := Tryd.func69.trans (congrArg some (by kernel_rfl))
  f173 := Tryd.func32.trans (congrArg some (by kernel_rfl))
  f246 := Tryd.func47.trans (congrArg some (by kernel_rfl))
  f283 := Tryd.func57.trans (congrArg some (by kernel_rfl))
  f284 := Tryd.func58.trans (congrArg some (by kernel_rfl))
  f285 := Tryd.func59.trans (congrArg some (by kernel_rfl))
  f286 := Tryd.func60.trans (congrArg some (by kernel_rfl))
  f317 := Tryd.func68.trans (congrArg some (by kernel_rfl))
  f318 := Tryd.func70.trans (congrArg some (by kernel_rfl))
  f319 := Tryd.func71.trans (congrArg some (by kernel_rfl))
  f320 := Tryd.func72.trans (congrArg some (by kernel_rfl))
  f337 := Tryd.func74.trans (congrArg some (by kernel_rfl))
  f338 := Tryd.func75.trans (congrArg some (by kernel_rfl))
  t0 := Tryd.underlying0
  a0 := Tryd.isAgg0
  z0 := Tryd.sizeOf0
  v0 := Tryd.zeroValue0
  t2 := Tryd.underlying2
  a2 := Tryd.isAgg2
  z2 := Tryd.sizeOf2
  v2 := Tryd.zeroValue2
  t3 := Tryd.underlying3
  a3 := Tryd.isAgg3
  z3 := Tryd.sizeOf3
  v3 := Tryd.zeroValue3
  t4 := Tryd.underlying4
  a4 := Tryd.isAgg4
  z4 := Tryd.sizeOf4
  v4 := Tryd.zeroValue4
  t5 := Tryd.underlying5
  a5 := Tryd.isAgg5
  z5 := Tryd.sizeOf5
  v5 := Tryd.zeroValue5
  t9 := Tryd.underlying9
  a9 := Tryd.isAgg9
  z9 := Tryd.sizeOf9
  v9 := Tryd.zeroValue9
  t20 := Tryd.underlying20
  a20 := Tryd.isAgg20
  z20 := Tryd.sizeOf20
  v20 := Tryd.zeroValue20
  t37 := Tryd.underlying50
  a37 := Tryd.isAgg50
  z37 := Tryd.sizeOf50
  v37 := Tryd.zeroValue50
  t46 := Tryd.underlying70
  a46 := Tryd.isAgg70
  z46 := Tryd.sizeOf70
  v46 := Tryd.zeroValue70
  t51 := Tryd.underlying104
  a51 := Tryd.isAgg104
  z51 := Tryd.sizeOf104
  v51 := Tryd.zeroValue104
  t53 := Tryd.underlying53
  a53 := Tryd.isAgg53
  z53 := Tryd.sizeOf53
  v53 := Tryd.zeroValue53
  t171 := Tryd.underlying89
  a171 := Tryd.isAgg89
  z171 := Tryd.sizeOf89
  v171 := Tryd.zeroValue89
  t173 := Tryd.underlying92
  a173 := Tryd.isAgg92
  z173 := Tryd.sizeOf92
  v173 := Tryd.zeroValue92
  t212 := Tryd.underlying103
  a212 := Tryd.isAgg103
  z212 := Tryd.sizeOf103
  v212 := Tryd.zeroValue103
  t213 := Tryd.underlying105
  a213 := Tryd.isAgg105
  z213 := Tryd.sizeOf105
  t232 := Tryd.underlying113
  a232 := Tryd.isAgg113
  z232 := Tryd.sizeOf113
  v232 := Tryd.zeroValue113
  t233 := Tryd.underlying114
  a233 := Tryd.isAgg114
  z233 := Tryd.sizeOf114
  v233 := Tryd.zeroValue114
  g17 := by kernel_rfl
  g18 := by kernel_rfl
  g19 := by kernel_rfl
  i0 := by kernel_rfl
  i2 := by kernel_rfl
  i3 := by kernel_rfl
  i4 := by kernel_rfl
  i5 := by kernel_rfl
  i9 := by kernel_rfl
  i20 := by kernel_rfl
  i37 := by kernel_rfl
  i46 := by kernel_rfl
  i51 := by kernel_rfl
  i53 := by kernel_rfl
  i171 := by kernel_rfl
  i173 := by kernel_rfl
  i212 := by kernel_rfl
  i232 := by kernel_rfl
  i233 := by kernel_rfl
  m17 := by kernel_rfl
  m18 := by kernel_rfl
  m19 := by kernel_rfl }
def Tryd.laysTP_ren : Go.Shelf.Ren := ⟨fun | 101 => 41 | 208 => 51 | 206 => 62 | n => n, fun | 9 => 9 | 4 => 4 | 3 => 3 | n => n, fun | n => n⟩
theorem Tryd.laysTP : Go.Proofs.Lays.n101 Tryd.prog Tryd.laysTP_ren := {
  mixed := by kernel_rfl
  f101 := Tryd.func41.trans (congrArg some (by kernel_rfl))
  f206 := Tryd.func62.trans (congrArg some (by kernel_rfl))
  f208 := Tryd.func51.trans (congrArg some (by kernel_rfl))
  t3 := Tryd.underlying3
  a3 := Tryd.isAgg3
  z3 := Tryd.sizeOf3
  v3 := Tryd.zeroValue3
  t4 := Tryd.underlying4
  a4 := Tryd.isAgg4
  z4 := Tryd.sizeOf4
  v4 := Tryd.zeroValue4
  t9 := Tryd.underlying9
  a9 := Tryd.isAgg9
  z9 := Tryd.sizeOf9
  v9 := Tryd.zeroValue9 }
end Go.Proofs
end

section
/- What strconv.ParseInt makes of a text that is written as a number is. -/
namespace Go.Hs
open Go
/-- Whether a text is written as a number is. -/
def writtenP (s : List UInt8) : Bool :=
  let t := Lib.trimPrefix s [45]
  t.all isDig && (s == [48] || (!(t == []) && !(t.head? == some 48)))
def rdv (acc : Nat) (l : List UInt8) : Nat := l.foldl (fun a c => a * 10 + dval c) acc
theorem rdv_val : ∀ (l : List UInt8) (acc : Nat), rdv acc l = acc * 10 ^ l.length + val (l.reverse.map dval)
  | [], acc => by simp [rdv, val]
  | c :: r, acc => by
    have := rdv_val r (acc * 10 + dval c)
    rw [show rdv acc (c :: r) = rdv (acc * 10 + dval c) r from rfl, this, List.reverse_cons, List.map_append, val_app, List.length_cons, Nat.pow_succ, List.length_map, List.length_reverse]
    simp only [List.map_cons, List.map_nil, val, Nat.mul_zero, Nat.add_zero]
    rw [Nat.add_mul, Nat.mul_assoc, Nat.mul_comm 10 (10 ^ r.length), Nat.mul_comm (dval c)]
    omega
theorem rdv_ge : ∀ (l : List UInt8) (acc : Nat), acc ≤ rdv acc l
  | [], acc => Nat.le_refl _
  | c :: r, acc => by
    have := rdv_ge r (acc * 10 + dval c)
    rw [show rdv acc (c :: r) = rdv (acc * 10 + dval c) r from rfl]
    omega
theorem parseUintM_dig : ∀ (l : List UInt8) (acc : Nat), l.all isDig = true → acc ≤ 18446744073709551615 →
    Lib.parseUintM 18446744073709551615 acc l = if rdv acc l ≤ 18446744073709551615 then .ok (rdv acc l) else .range
  | [], acc, _, h => by simp [Lib.parseUintM, rdv, h]
  | c :: r, acc, hd, h => by
    rw [List.all_cons, Bool.and_eq_true] at hd
    have hc : 48 ≤ c.toNat ∧ c.toNat ≤ 57 := by have := hd.1; unfold isDig at this; simpa using this
    have hge := rdv_ge r (acc * 10 + dval c)
    have hdv : dval c = c.toNat - 48 := rfl
    rw [Lib.parseUintM, if_pos hc, show rdv acc (c :: r) = rdv (acc * 10 + dval c) r from rfl]
    by_cases h1 : 1844674407370955162 ≤ acc
    · rw [if_pos h1, if_neg (by omega)]
    · rw [if_neg h1]
      by_cases h2 : 18446744073709551615 < acc * 10 + (c.toNat - 48)
      · rw [if_pos h2, if_neg (by omega)]
      · rw [if_neg h2]
        exact parseUintM_dig r _ hd.2 (by omega)
theorem parseUintB_dig {l : List UInt8} (hl : l ≠ []) (hd : l.all isDig = true) :
    Lib.parseUintB 64 l = if val (l.reverse.map dval) ≤ 18446744073709551615 then .ok (val (l.reverse.map dval)) else .range := by
  have := parseUintM_dig l 0 hd (by omega)
  rw [rdv_val, Nat.zero_mul, Nat.zero_add] at this
  rw [Lib.parseUintB, if_neg hl]
  exact this
theorem told_ok {x : Int} (h : -9223372036854775808 ≤ x ∧ x ≤ 9223372036854775807) : told x = (x, 0) := by
  unfold told fits
  rw [if_pos (decide_eq_true h)]
theorem told_bad {x : Int} (h : ¬ (-9223372036854775808 ≤ x ∧ x ≤ 9223372036854775807)) : told x = (0, 60) := by
  unfold told fits
  rw [if_neg (by simpa using h)]
theorem trimMinus (s : List UInt8) : Lib.trimPrefix s [45] = if s.head? = some 45 then s.drop 1 else s := by
  cases s with
  | nil => rfl
  | cons c r =>
    unfold Lib.trimPrefix Lib.hasPrefix
    by_cases h : c = 45
    · subst h; simp
    · have h' : ¬ (45 : UInt8) = c := fun e => h e.symm
      simp [h, h']
theorem parse_law (s : List UInt8) : (writtenP s = false ∧ parseR s = (0, 2)) ∨ (writtenP s = true ∧ ((∃ v, Lib.parseIntB 64 s = .ok v ∧ parseR s = (v, 0)) ∨ (Lib.parseIntB 64 s = .range ∧ parseR s = (0, 60)))) := by
  cases s with
  | nil => exact .inl ⟨by decide, rfl⟩
  | cons c r =>
    unfold writtenP parseR
    rw [trimMinus]
    by_cases hc : c = 45
    · subst hc
      simp only [List.head?_cons, if_true, List.drop_succ_cons, List.drop_zero]
      have e1 : ((some (45 : UInt8)) == some 45) = true := rfl
      have e2 : ((45 :: r : List UInt8) == [48]) = false := by simp
      simp only [e1, e2, if_true, Bool.false_or]
      by_cases hd : r.all isDig = true
      · cases r with
        | nil => left; simp
        | cons d q =>
          by_cases h0 : d = 48
          · subst h0; left; simp
          · right
            have h0' : ¬ ((some d : Option UInt8) == some 48) = true := by simpa using h0
            refine ⟨by simp [hd, h0], ?_⟩
            rw [if_neg (by simp only [List.head?_cons, Option.some.injEq, h0, hd, Bool.true_eq_false, reduceCtorEq, false_and, or_self, not_false_eq_true])]
            rw [Lib.parseIntB_minus, parseUintB_dig (by simp) hd]
            generalize val ((d :: q).reverse.map dval) = m
            by_cases hm : m ≤ 9223372036854775808
            · left
              refine ⟨-(m : Int), ?_, told_ok (by omega)⟩
              rw [if_pos (by omega)]
              simp only [Lib.signedC]
              rw [if_neg (by omega)]
            · right
              refine ⟨?_, told_bad (by omega)⟩
              by_cases hm2 : m ≤ 18446744073709551615
              · rw [if_pos hm2]
                simp only [Lib.signedC]
                rw [if_pos (by omega)]
              · rw [if_neg hm2]
                rfl
      · left
        have hd' : r.all isDig = false := by simpa using hd
        simp [hd']
    · have e1 : ((some c : Option UInt8) == some 45) = false := by simpa using hc
      simp only [List.head?_cons, e1, Option.some.injEq, hc, if_false, Bool.false_eq_true]
      by_cases hd : (c :: r).all isDig = true
      · have hdig : 48 ≤ c.toNat ∧ c.toNat ≤ 57 := by
          have := hd; rw [List.all_cons, Bool.and_eq_true] at this
          have := this.1; unfold isDig at this; simpa using this
        by_cases h0 : c = 48 ∧ r ≠ []
        · left
          obtain ⟨rfl, h1⟩ := h0
          have hlen : (48 :: r : List UInt8).length > 1 := by
            cases r with
            | nil => exact absurd rfl h1
            | cons _ _ => simp
          refine ⟨by simp [h1], ?_⟩
          rw [if_pos (.inr (.inl ⟨rfl, .inl hlen⟩))]
        · right
          refine ⟨?_, ?_⟩
          · rw [hd]
            by_cases h1 : c = 48
            · have : r = [] := by
                by_cases h2 : r = []
                · exact h2
                · exact absurd ⟨h1, h2⟩ h0
              subst h1 this
              rfl
            · simp [h1]
          · rw [if_neg (by
              simp only [List.head?_cons, Option.some.injEq, hd, Bool.true_eq_false, reduceCtorEq, or_false, false_or, not_and, List.length_cons]
              intro h1 h2
              apply h0
              refine ⟨h1, fun h3 => ?_⟩
              subst h3
              simp at h2)]
            rw [Lib.parseIntB_plain 64 c r (by omega) (by omega), parseUintB_dig (by simp) hd]
            generalize val ((c :: r).reverse.map dval) = m
            by_cases hm : m ≤ 9223372036854775807
            · left
              refine ⟨(m : Int), ?_, told_ok (by omega)⟩
              rw [if_pos (by omega)]
              simp only [Lib.signlessC]
              rw [if_neg (by omega)]
            · right
              refine ⟨?_, told_bad (by omega)⟩
              by_cases hm2 : m ≤ 18446744073709551615
              · rw [if_pos hm2]
                simp only [Lib.signlessC]
                rw [if_pos (by omega)]
              · rw [if_neg hm2]
                rfl
      · left
        have hd' : (c :: r).all isDig = false := by simpa using hd
        rw [hd']
        exact ⟨rfl, by rw [if_pos (.inr (.inr rfl))]⟩
end Go.Hs
end
