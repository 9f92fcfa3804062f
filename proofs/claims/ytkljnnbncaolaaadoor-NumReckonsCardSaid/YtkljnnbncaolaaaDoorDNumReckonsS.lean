/- For every input DNumReckonsS returns true, and its arguments read as before. No condition. -/
/- Part 35 of the proof of a statement of seat YtkljnnbncaolaaaDoor: HsDNumRefPut HsDNumWorks HsDNumLaws1 HsDNumLaid HsDNumLaidG HsDNumArgs HsDNumReckonsS. -/
import Derived.Test.YtkljnnbncaolaaaDoorPart31
import Derived.Test.YtkljnnbncaolaaaDoorPart34
import Derived.Test.YtkljnnbncaolaaaDoorPart33
import Derived.Test.YtkljnnbncaolaaaDoorRows
import Derived.ProofKit
import Derived.OpenShut
import Derived.LaidLaws
import Derived.Stop.LaidErr
import Derived.Lib.LaidTab
import Derived.Handed
import Derived.ChangeMaps5
import Derived.Test.YtkljnnbncaolaaaDoorTie
import Derived.Test.YtkljnnbncaolaaaDoorCards
set_option linter.unusedSimpArgs false
set_option linter.unusedVariables false
section
namespace Go.Hs
open Go.Proofs
set_option maxRecDepth 10000
/-- The digits, the least first, as they are written. -/
def chars (l : List Nat) : List UInt8 := (l.map fun d => UInt8.ofNat (48 + d)).reverse
theorem decDigits_dg (u : Nat) (h : 0 < u) : Lib.decDigits u = chars (dg u) := by
  induction u using Nat.strongRecOn with
  | _ u ih =>
    rw [Lib.decDigits, dg_pos h]
    by_cases h1 : u < 10
    · rw [dif_pos h1, show u / 10 = 0 by omega, dg_zero, Nat.mod_eq_of_lt h1]
      rfl
    · rw [dif_neg h1, ih (u / 10) (by omega) (by omega)]
      simp [chars]
theorem putR_dg (n : Int) : putR n = if n = 0 then [48] else if n < 0 then 45 :: chars (dg n.natAbs) else chars (dg n.natAbs) := by
  unfold putR Lib.itoa
  by_cases h0 : n = 0
  · subst h0
    simp
    rw [Lib.decDigits]
    simp
  · rw [if_neg h0]
    by_cases h1 : n < 0
    · rw [if_pos h1, if_pos h1, decDigits_dg _ (by omega)]
    · rw [if_neg h1, if_neg h1, show n.toNat = n.natAbs by omega, decDigits_dg _ (by omega)]
theorem chars_nil {l : List Nat} : chars l = [] ↔ l = [] := by simp [chars]
theorem chars_len (l : List Nat) : (chars l).length = l.length := by simp [chars]
theorem wu8 {n : Int} (h1 : 0 ≤ n) (h2 : n ≤ 255) : IntKind.u8.wrap n = n := by
  unfold IntKind.wrap
  simp [IntKind.signed, IntKind.bits]
  omega
/- ref06.Put -/
theorem rPut_spec (G : Nat → V) (hG : GOk G) (n : Int) (hn : InK .i64 n) : Spec Tryd.prog G 14 [.int .i64 n] hNone (fun v _ => v = .str (putR n)) := by
  have hn' := (inK_iff n).1 hn
  have hnl := nil_of (n := n)
  have hll := len_of hn
  have hdg := dig_dg n.natAbs
  have hn0 : dg n.natAbs = [] ↔ n = 0 := by rw [dg_ne]; omega
  rw [putR_dg]
  refine Spec.of_code' 0 33 [.tmp 2] Tryd.func14 rfl rfl rfl rfl fun X => ?_
  refine AW.seq_k fun K hK => AW.region (by kernel_rfl) ?_
  simp -implicitDefEqProofs only [go_sem, seval, ↓reduceIte]
  refine hK _ ?_
  clear hK K
  refine AW.seq_k fun K hK => AW.region (by kernel_rfl) ?_
  simp -implicitDefEqProofs only [go_sem, seval, ↓reduceIte]
  refine CallA.pure hG (by kernel_rfl) ?_
  simp -implicitDefEqProofs only [go_sem, seval, ↓reduceIte]
  refine (rOf_spec G hG n hn).mono ?_
  rintro _ _ rfl
  simp -implicitDefEqProofs only [go_sem, seval, ↓reduceIte, encLong]
  intro g3
  refine hK _ ?_
  clear hK K
  generalize decide (n = 0) = nl at hnl
  generalize hl : dg n.natAbs = l at hnl hll hdg hn0
  have hsl := slD_l hnl
  refine AW.seq_k fun K hK => AW.region (by kernel_rfl) ?_
  simp -implicitDefEqProofs only [go_sem, seval, ↓reduceIte]
  refine hK _ ?_
  clear hK K
  refine AW.seq_k fun K1 hK1 => ?_
  refine AW.seq_k fun K hK => AW.region (by kernel_rfl) ?_
  simp -implicitDefEqProofs only [go_sem, seval, ↓reduceIte]
  refine hK _ ?_
  clear hK K
  refine AW.block ?_
  refine AW.for l.length (fun k (_ : Unit) => st [(3, .ptr 3 g3 0), (4, .str (chars (l.take k))), (5, .int .i64 k)] [(3, .cells .new g3 0 [encSl .new 1 (V.int .i64) (slD nl l), .bool (decide (n < 0))])]) (fun k _ => True) 0 () (Nat.zero_le _) trivial
    (Weak.st (by simp -implicitDefEqProofs only [go_sem, seval, ↓reduceIte]; try rfl) (by simp -implicitDefEqProofs only [go_sem, seval, ↓reduceIte]; try rfl)) ?_
  intro k _ hk _ L2 hL2
  refine AW.seq_k fun K3 hK3 => ?_
  refine AW.seq_k fun K hK => AW.region (by kernel_rfl) ?_
  simp -implicitDefEqProofs only [go_sem, seval, ↓reduceIte, hsl, ints_len]
  refine hK _ ?_
  clear hK K
  refine AW.condS (by simp -implicitDefEqProofs only [go_sem, seval, ↓reduceIte]; rfl) (fun h4 => ?_) (fun h4 => ?_)
  · have hk1 : k < l.length := by have := of_decide_eq_true h4; omega
    refine AW.skip ?_
    simp -implicitDefEqProofs only [go_sem, seval, ↓reduceIte]
    refine hK3 _ ?_
    have g2 := ints_get_some (l := l) (k := k) hk1
    have h9 := getD_lt hdg k
    have htk : l.take (k + 1) = l.take k ++ [l.getD k 0] := by rw [List.take_succ_eq_append_getElem hk1, List.getD_eq_getElem?_getD, List.getElem?_eq_getElem hk1]; rfl
    generalize l.getD k 0 = d at g2 h9 htk
    have hch : chars (l.take (k + 1)) = UInt8.ofNat (48 + d) :: chars (l.take k) := by rw [htk]; simp [chars]
    have hw1 : IntKind.i64.wrap (48 + (d : Int)) = 48 + (d : Int) := w64 (by omega) (by omega)
    have hw2 : IntKind.u8.wrap (48 + (d : Int)) = 48 + (d : Int) := wu8 (by omega) (by omega)
    have hb : UInt8.ofNat (48 + (d : Int)).toNat = UInt8.ofNat (48 + d) := congrArg _ (by omega)
    have hlen : ¬ (((1 + (chars (l.take k)).length : Nat) : Int) > IntKind.i64.max) := by
      rw [show IntKind.i64.max = 9223372036854775807 from rfl, chars_len, List.length_take]; omega
    refine AW.seq_k fun K5 hK5 => ?_
    refine AW.block ?_
    refine AW.regionB 8 23 (e := 5) (by kernel_rfl) rfl Tryd.underlying50 Tryd.underlying5 Tryd.underlying9 ?_
    simp -implicitDefEqProofs only [go_sem, seval, ↓reduceIte, List.take_succ_cons, List.take_zero, hsl, g2, hw1, hw2]
    intro g22
    refine ⟨_, _, _, _, [48 + (d : Int)], rfl, rfl, ?_⟩
    simp -implicitDefEqProofs only [go_sem, seval, ↓reduceIte, List.drop_succ_cons, List.drop_zero, List.map_cons, List.map_nil, hb, hlen]
    refine hK5 _ ?_
    refine AW.region (by kernel_rfl) ?_
    simp -implicitDefEqProofs only [go_sem, seval, ↓reduceIte]
    refine hL2 _ ⟨hk1, (), trivial, Weak.st (by rw [hch]; simp -implicitDefEqProofs only [go_sem, seval, ↓reduceIte]; exact congrArg _ (by rw [w64 (by omega) (by omega)]; omega)) (by simp -implicitDefEqProofs only [go_sem, seval, ↓reduceIte]; try rfl)⟩
  · have hk1 : k = l.length := by have := of_decide_eq_false h4; omega
    subst hk1
    refine AW.exit ?_
    simp -implicitDefEqProofs only [go_sem, seval, ↓reduceIte]
    refine hK1 _ ?_
    rw [List.take_length]
    have hz : (chars l == []) = decide (n = 0) := by
      by_cases h : n = 0
      · rw [hn0.2 h]; simp [h, chars]
      · have : ¬ l = [] := fun e => h (hn0.1 e)
        simp [h, chars_nil, this]
    refine AW.seq_k fun K6 hK6 => ?_
    refine AW.seq_k fun K hK => AW.region (by kernel_rfl) ?_
    simp -implicitDefEqProofs only [go_sem, seval, ↓reduceIte, hz]
    refine hK _ ?_
    clear hK K
    refine AW.condS (by simp -implicitDefEqProofs only [go_sem, seval, ↓reduceIte]; rfl) (fun h7 => ?_) (fun h7 => ?_)
    · have h7 := of_decide_eq_true h7
      refine AW.seq_k fun K hK => AW.region (by kernel_rfl) ?_
      simp -implicitDefEqProofs only [go_sem, seval, ↓reduceIte]
      refine hK _ ?_
      clear hK K
      refine AW.ret ?_
      simp -implicitDefEqProofs only [go_sem, seval, ↓reduceIte]
      refine endK_some ?_
      rw [if_pos h7]
    · have h7 := of_decide_eq_false h7
      refine AW.skip ?_
      simp -implicitDefEqProofs only [go_sem, seval, ↓reduceIte]
      refine hK6 _ ?_
      refine AW.seq_k fun K8 hK8 => ?_
      refine AW.seq_k fun K hK => AW.region (by kernel_rfl) ?_
      simp -implicitDefEqProofs only [go_sem, seval, ↓reduceIte]
      refine hK _ ?_
      clear hK K
      refine AW.condS (by simp -implicitDefEqProofs only [go_sem, seval, ↓reduceIte]; rfl) (fun h8 => ?_) (fun h8 => ?_)
      · have h8 := of_decide_eq_true h8
        have hlen : ¬ (((1 + (chars l).length : Nat) : Int) > IntKind.i64.max) := by
          rw [show IntKind.i64.max = 9223372036854775807 from rfl, chars_len]; omega
        refine AW.seq_k fun K hK => AW.region (by kernel_rfl) ?_
        simp -implicitDefEqProofs only [go_sem, seval, ↓reduceIte, hlen]
        refine hK _ ?_
        clear hK K
        refine AW.ret ?_
        simp -implicitDefEqProofs only [go_sem, seval, ↓reduceIte]
        refine endK_some ?_
        rw [if_neg h7, if_pos h8]
      · have h8 := of_decide_eq_false h8
        refine AW.skip ?_
        simp -implicitDefEqProofs only [go_sem, seval, ↓reduceIte]
        refine hK8 _ ?_
        refine AW.seq_k fun K hK => AW.region (by kernel_rfl) ?_
        simp -implicitDefEqProofs only [go_sem, seval, ↓reduceIte]
        refine hK _ ?_
        clear hK K
        refine AW.ret ?_
        simp -implicitDefEqProofs only [go_sem, seval, ↓reduceIte]
        refine endK_some ?_
        rw [if_neg h7, if_neg h8]
end Go.Hs
end

section
namespace Go.Hs
open Go.Proofs
set_option maxRecDepth 10000
instance (k : IntKind) (n : Int) : Decidable (InK k n) := inferInstanceAs (Decidable (_ ∧ _))
/- hopscotchlaw06.works -/
theorem works_spec (G : Nat → V) (hN : GNum G) : Spec Tryd.prog G 8 [] hNone (fun v _ => v = .bool true) := by
  have hG := hN.ok
  refine Spec.of_code' 0 110 [.tmp 0] Tryd.func8 rfl rfl rfl rfl fun X => ?_
  refine AW.seq_k fun K hK => AW.region (by kernel_rfl) ?_
  simp -implicitDefEqProofs only [go_sem, seval, ↓reduceIte]
  refine hK _ ?_
  clear hK K
  refine AW.seq_k fun K hK => AW.region (by kernel_rfl) ?_
  simp -implicitDefEqProofs only [go_sem, seval, ↓reduceIte]
  refine hK _ ?_
  clear hK K
  refine AW.seq_k fun K hK => AW.region (by kernel_rfl) ?_
  simp -implicitDefEqProofs only [go_sem, seval, ↓reduceIte]
  refine CallA.pure hG (by kernel_rfl) ?_
  simp -implicitDefEqProofs only [go_sem, seval, ↓reduceIte]
  refine (nDiv_spec G hG (-7) 2 (by decide) (by decide)).mono ?_
  rintro _ _ rfl
  rw [show divR (-7) 2 = (-3, 0) by rfl]
  simp -implicitDefEqProofs only [go_sem, seval, ↓reduceIte, encR]
  refine hK _ ?_
  clear hK K
  refine AW.seq_k fun K hK => AW.region (by kernel_rfl) ?_
  simp -implicitDefEqProofs only [go_sem, seval, ↓reduceIte]
  refine CallA.pure hG (by kernel_rfl) ?_
  simp -implicitDefEqProofs only [go_sem, seval, ↓reduceIte]
  refine (nMod_spec G hG (-7) 2 (by decide) (by decide)).mono ?_
  rintro _ _ rfl
  rw [show modR (-7) 2 = (-1, 0) by rfl]
  simp -implicitDefEqProofs only [go_sem, seval, ↓reduceIte, encR]
  refine hK _ ?_
  clear hK K
  refine AW.seq_k fun K hK => AW.region (by kernel_rfl) ?_
  simp -implicitDefEqProofs only [go_sem, seval, ↓reduceIte]
  refine CallA.pure hG (by kernel_rfl) ?_
  simp -implicitDefEqProofs only [go_sem, seval, ↓reduceIte]
  refine (nMod_spec G hG 7 (-2) (by decide) (by decide)).mono ?_
  rintro _ _ rfl
  rw [show modR 7 (-2) = (1, 0) by rfl]
  simp -implicitDefEqProofs only [go_sem, seval, ↓reduceIte, encR]
  refine hK _ ?_
  clear hK K
  refine AW.seq_k fun K hK => AW.region (by kernel_rfl) ?_
  simp -implicitDefEqProofs only [go_sem, seval, ↓reduceIte]
  refine CallA.pure hG (by kernel_rfl) ?_
  simp -implicitDefEqProofs only [go_sem, seval, ↓reduceIte]
  refine (nDiv_spec G hG (-9223372036854775808) (-1) (by decide) (by decide)).mono ?_
  rintro _ _ rfl
  rw [show divR (-9223372036854775808) (-1) = (0, 60) by rfl]
  simp -implicitDefEqProofs only [go_sem, seval, ↓reduceIte, encR]
  refine hK _ ?_
  clear hK K
  refine AW.seq_k fun K hK => AW.region (by kernel_rfl) ?_
  simp -implicitDefEqProofs only [go_sem, seval, ↓reduceIte]
  refine CallA.pure hG (by kernel_rfl) ?_
  simp -implicitDefEqProofs only [go_sem, seval, ↓reduceIte]
  refine (nMod_spec G hG (-9223372036854775808) (-1) (by decide) (by decide)).mono ?_
  rintro _ _ rfl
  rw [show modR (-9223372036854775808) (-1) = (0, 0) by rfl]
  simp -implicitDefEqProofs only [go_sem, seval, ↓reduceIte, encR]
  refine hK _ ?_
  clear hK K
  refine AW.seq_k fun K hK => AW.region (by kernel_rfl) ?_
  simp -implicitDefEqProofs only [go_sem, seval, ↓reduceIte]
  refine CallA.pure hG (by kernel_rfl) ?_
  simp -implicitDefEqProofs only [go_sem, seval, ↓reduceIte]
  refine (nNeg_spec G hG (-9223372036854775808) (by decide)).mono ?_
  rintro _ _ rfl
  rw [show told (- (-9223372036854775808)) = (0, 60) by rfl]
  simp -implicitDefEqProofs only [go_sem, seval, ↓reduceIte, encR]
  refine hK _ ?_
  clear hK K
  refine AW.seq_k fun K hK => AW.region (by kernel_rfl) ?_
  simp -implicitDefEqProofs only [go_sem, seval, ↓reduceIte]
  refine CallA.pure hG (by kernel_rfl) ?_
  simp -implicitDefEqProofs only [go_sem, seval, ↓reduceIte]
  refine (nParse_spec G hN [45, 48] (by decide)).mono ?_
  rintro _ _ rfl
  rw [show parseR [45, 48] = (0, 2) by rfl]
  simp -implicitDefEqProofs only [go_sem, seval, ↓reduceIte, encR]
  refine hK _ ?_
  clear hK K
  refine AW.seq_k fun K hK => AW.region (by kernel_rfl) ?_
  simp -implicitDefEqProofs only [go_sem, seval, ↓reduceIte]
  refine CallA.pure hG (by kernel_rfl) ?_
  simp -implicitDefEqProofs only [go_sem, seval, ↓reduceIte]
  refine (nParse_spec G hN [48, 48, 55] (by decide)).mono ?_
  rintro _ _ rfl
  rw [show parseR [48, 48, 55] = (0, 2) by rfl]
  simp -implicitDefEqProofs only [go_sem, seval, ↓reduceIte, encR]
  refine hK _ ?_
  clear hK K
  refine AW.seq_k fun K hK => AW.region (by kernel_rfl) ?_
  simp -implicitDefEqProofs only [go_sem, seval, ↓reduceIte]
  refine CallA.pure hG (by kernel_rfl) ?_
  simp -implicitDefEqProofs only [go_sem, seval, ↓reduceIte]
  refine (nParse_spec G hN [57, 50, 50, 51, 51, 55, 50, 48, 51, 54, 56, 53, 52, 55, 55, 53, 56, 48, 56] (by decide)).mono ?_
  rintro _ _ rfl
  rw [show parseR [57, 50, 50, 51, 51, 55, 50, 48, 51, 54, 56, 53, 52, 55, 55, 53, 56, 48, 56] = (0, 60) by rfl]
  simp -implicitDefEqProofs only [go_sem, seval, ↓reduceIte, encR]
  refine hK _ ?_
  clear hK K
  refine AW.seq_k fun K hK => AW.region (by kernel_rfl) ?_
  simp -implicitDefEqProofs only [go_sem, seval, ↓reduceIte]
  intro g64
  refine CallA.frzL (fun o => o == 64) [encSl .new 1 (V.int .i64) (.mk false [9223372036854775807, 1, -1])] [] ⟨Fz.sl (f := V.int .i64) (l := [9223372036854775807, 1, -1]) (g := g64) (fz := 0) (c := .new) rfl (by simp -implicitDefEqProofs only [go_sem, seval, ↓reduceIte]; try rfl) (fun _ => rfl), trivial⟩ trivial ?_
  refine CallA.pure hG (by kernel_rfl) ?_
  simp -implicitDefEqProofs only [go_sem, seval, ↓reduceIte]
  refine (nSumN_spec G hG _ (.mk false [9223372036854775807, 1, -1]) (by decide) (by decide)).mono ?_
  rintro _ _ rfl
  rw [show sumR 0 (Sl.mk false [9223372036854775807, 1, -1]).l = (0, 60) by rfl]
  simp -implicitDefEqProofs only [go_sem, seval, ↓reduceIte, encR]
  refine hK _ ?_
  clear hK K
  refine AW.seq_k fun K hK => AW.region (by kernel_rfl) ?_
  simp -implicitDefEqProofs only [go_sem, seval, ↓reduceIte]
  refine hK _ ?_
  clear hK K
  refine AW.ret ?_
  simp -implicitDefEqProofs only [go_sem, seval, ↓reduceIte]
  refine endK_some ?_
  rfl
end Go.Hs
end

section
namespace Go.Hs
open Go.Proofs
set_option maxRecDepth 10000
/- NumReckons -/
theorem lawReckons_spec (G : Nat → V) (hN : GNum G) (a b : Int) (ha : InK .i64 a) (hb : InK .i64 b) : Spec Tryd.prog G 5 [.int .i64 a, .int .i64 b] hNone (fun v _ => v = .bool true) := by
  have hG := hN.ok
  refine Spec.of_code' 0 104 [.tmp 4] Tryd.func5 rfl rfl rfl rfl fun X => ?_
  refine AW.seq_k fun K hK => AW.region (by kernel_rfl) ?_
  simp -implicitDefEqProofs only [go_sem, seval, ↓reduceIte]
  refine hK _ ?_
  clear hK K
  refine AW.seq_k fun K1 hK1 => ?_
  refine AW.seq_k fun K hK => AW.region (by kernel_rfl) ?_
  simp -implicitDefEqProofs only [go_sem, seval, ↓reduceIte]
  refine hK _ ?_
  clear hK K
  refine AW.block ?_
  refine AW.for 6 (fun k (_ : Unit) => st [(0, .int .i64 a), (1, .int .i64 b), (5, .int .i64 k)] []) (fun k _ => True) 0 () (Nat.zero_le _) trivial
    (Weak.st (by simp -implicitDefEqProofs only [go_sem, seval, ↓reduceIte]; try rfl) (by simp -implicitDefEqProofs only [go_sem, seval, ↓reduceIte]; try rfl)) ?_
  intro k _ hk _ L2 hL2
  refine AW.seq_k fun K3 hK3 => ?_
  refine AW.seq_k fun K hK => AW.region (by kernel_rfl) ?_
  simp -implicitDefEqProofs only [go_sem, seval, ↓reduceIte]
  refine hK _ ?_
  clear hK K
  refine AW.condS (by simp -implicitDefEqProofs only [go_sem, seval, ↓reduceIte]; rfl) (fun h4 => ?_) (fun h4 => ?_)
  · have hk1 : k < 6 := by have := of_decide_eq_true h4; omega
    refine AW.skip ?_
    simp -implicitDefEqProofs only [go_sem, seval, ↓reduceIte]
    refine hK3 _ ?_
    refine AW.seq_k fun K5 hK5 => ?_
    refine AW.block ?_
    refine AW.seq_k fun K hK => AW.region (by kernel_rfl) ?_
    simp -implicitDefEqProofs only [go_sem, seval, ↓reduceIte]
    refine hK _ ?_
    clear hK K
    refine AW.seq_k fun K hK => AW.region (by kernel_rfl) ?_
    simp -implicitDefEqProofs only [go_sem, seval, ↓reduceIte]
    refine hK _ ?_
    clear hK K
    refine AW.seqJ (fun (p : Int × Int) => st [(0, .int .i64 a), (1, .int .i64 b), (5, .int .i64 k), (6, .int .i64 p.1), (7, .int .i64 p.1), (8, .int .i64 p.2), (9, .int .i64 p.2)] []) (fun _ => True) (fun K4 hK4 => ?_) ?_
    · clear hK5 hK3 hL2 h4
      refine AW.seq_k fun K hK => AW.region (by kernel_rfl) ?_
      simp -implicitDefEqProofs only [go_sem, seval, ↓reduceIte]
      refine hK _ ?_
      clear hK K
      refine AW.block ?_
      match k, hk1 with
      | 0, _ =>
        refine AW.seq_k fun K hK => AW.region (by kernel_rfl) ?_
        simp -implicitDefEqProofs only [go_sem, seval, ↓reduceIte]
        refine hK _ ?_
        clear hK K
        refine AW.condS (by simp -implicitDefEqProofs only [go_sem, seval, ↓reduceIte]; rfl) (fun h => ?_) (fun h => ?_)
        · refine AW.seq_k fun K hK => AW.region (by kernel_rfl) ?_
          simp -implicitDefEqProofs only [go_sem, seval, ↓reduceIte]
          refine CallA.pure hG (by kernel_rfl) ?_
          simp -implicitDefEqProofs only [go_sem, seval, ↓reduceIte]
          refine (nAdd_spec G hG a b ha hb).mono ?_
          rintro _ _ rfl
          simp -implicitDefEqProofs only [go_sem, seval, ↓reduceIte, encR]
          refine hK _ ?_
          clear hK K
          refine AW.region (by kernel_rfl) ?_
          simp -implicitDefEqProofs only [go_sem, seval, ↓reduceIte]
          refine CallA.pure hG (by kernel_rfl) ?_
          simp -implicitDefEqProofs only [go_sem, seval, ↓reduceIte]
          refine (rAddN_spec G hG a b ha hb).mono ?_
          rintro _ _ rfl
          simp -implicitDefEqProofs only [go_sem, seval, ↓reduceIte, encR]
          exact hK4 _ (told (a + b)) trivial (Weak.st (by simp -implicitDefEqProofs only [go_sem, seval, ↓reduceIte]) (by simp -implicitDefEqProofs only [go_sem, seval, ↓reduceIte]))
        · cases h
      | 1, _ =>
        refine AW.seq_k fun K hK => AW.region (by kernel_rfl) ?_
        simp -implicitDefEqProofs only [go_sem, seval, ↓reduceIte]
        refine hK _ ?_
        clear hK K
        refine AW.condS (by simp -implicitDefEqProofs only [go_sem, seval, ↓reduceIte]; rfl) (fun h => ?_) (fun h => ?_)
        · cases h
        · refine AW.seq_k fun K hK => AW.region (by kernel_rfl) ?_
          simp -implicitDefEqProofs only [go_sem, seval, ↓reduceIte]
          refine hK _ ?_
          clear hK K
          refine AW.condS (by simp -implicitDefEqProofs only [go_sem, seval, ↓reduceIte]; rfl) (fun h => ?_) (fun h => ?_)
          · refine AW.seq_k fun K hK => AW.region (by kernel_rfl) ?_
            simp -implicitDefEqProofs only [go_sem, seval, ↓reduceIte]
            refine CallA.pure hG (by kernel_rfl) ?_
            simp -implicitDefEqProofs only [go_sem, seval, ↓reduceIte]
            refine (nSub_spec G hG a b ha hb).mono ?_
            rintro _ _ rfl
            simp -implicitDefEqProofs only [go_sem, seval, ↓reduceIte, encR]
            refine hK _ ?_
            clear hK K
            refine AW.region (by kernel_rfl) ?_
            simp -implicitDefEqProofs only [go_sem, seval, ↓reduceIte]
            refine CallA.pure hG (by kernel_rfl) ?_
            simp -implicitDefEqProofs only [go_sem, seval, ↓reduceIte]
            refine (rSubN_spec G hG a b ha hb).mono ?_
            rintro _ _ rfl
            simp -implicitDefEqProofs only [go_sem, seval, ↓reduceIte, encR]
            exact hK4 _ (told (a - b)) trivial (Weak.st (by simp -implicitDefEqProofs only [go_sem, seval, ↓reduceIte]) (by simp -implicitDefEqProofs only [go_sem, seval, ↓reduceIte]))
          · cases h
      | 2, _ =>
        refine AW.seq_k fun K hK => AW.region (by kernel_rfl) ?_
        simp -implicitDefEqProofs only [go_sem, seval, ↓reduceIte]
        refine hK _ ?_
        clear hK K
        refine AW.condS (by simp -implicitDefEqProofs only [go_sem, seval, ↓reduceIte]; rfl) (fun h => ?_) (fun h => ?_)
        · cases h
        · refine AW.seq_k fun K hK => AW.region (by kernel_rfl) ?_
          simp -implicitDefEqProofs only [go_sem, seval, ↓reduceIte]
          refine hK _ ?_
          clear hK K
          refine AW.condS (by simp -implicitDefEqProofs only [go_sem, seval, ↓reduceIte]; rfl) (fun h => ?_) (fun h => ?_)
          · cases h
          · refine AW.seq_k fun K hK => AW.region (by kernel_rfl) ?_
            simp -implicitDefEqProofs only [go_sem, seval, ↓reduceIte]
            refine hK _ ?_
            clear hK K
            refine AW.condS (by simp -implicitDefEqProofs only [go_sem, seval, ↓reduceIte]; rfl) (fun h => ?_) (fun h => ?_)
            · refine AW.seq_k fun K hK => AW.region (by kernel_rfl) ?_
              simp -implicitDefEqProofs only [go_sem, seval, ↓reduceIte]
              refine CallA.pure hG (by kernel_rfl) ?_
              simp -implicitDefEqProofs only [go_sem, seval, ↓reduceIte]
              refine (nMul_spec G hG a b ha hb).mono ?_
              rintro _ _ rfl
              simp -implicitDefEqProofs only [go_sem, seval, ↓reduceIte, encR]
              refine hK _ ?_
              clear hK K
              refine AW.region (by kernel_rfl) ?_
              simp -implicitDefEqProofs only [go_sem, seval, ↓reduceIte]
              refine CallA.pure hG (by kernel_rfl) ?_
              simp -implicitDefEqProofs only [go_sem, seval, ↓reduceIte]
              refine (rMulN_spec G hG a b ha hb).mono ?_
              rintro _ _ rfl
              simp -implicitDefEqProofs only [go_sem, seval, ↓reduceIte, encR]
              exact hK4 _ (told (a * b)) trivial (Weak.st (by simp -implicitDefEqProofs only [go_sem, seval, ↓reduceIte]) (by simp -implicitDefEqProofs only [go_sem, seval, ↓reduceIte]))
            · cases h
      | 3, _ =>
        refine AW.seq_k fun K hK => AW.region (by kernel_rfl) ?_
        simp -implicitDefEqProofs only [go_sem, seval, ↓reduceIte]
        refine hK _ ?_
        clear hK K
        refine AW.condS (by simp -implicitDefEqProofs only [go_sem, seval, ↓reduceIte]; rfl) (fun h => ?_) (fun h => ?_)
        · cases h
        · refine AW.seq_k fun K hK => AW.region (by kernel_rfl) ?_
          simp -implicitDefEqProofs only [go_sem, seval, ↓reduceIte]
          refine hK _ ?_
          clear hK K
          refine AW.condS (by simp -implicitDefEqProofs only [go_sem, seval, ↓reduceIte]; rfl) (fun h => ?_) (fun h => ?_)
          · cases h
          · refine AW.seq_k fun K hK => AW.region (by kernel_rfl) ?_
            simp -implicitDefEqProofs only [go_sem, seval, ↓reduceIte]
            refine hK _ ?_
            clear hK K
            refine AW.condS (by simp -implicitDefEqProofs only [go_sem, seval, ↓reduceIte]; rfl) (fun h => ?_) (fun h => ?_)
            · cases h
            · refine AW.seq_k fun K hK => AW.region (by kernel_rfl) ?_
              simp -implicitDefEqProofs only [go_sem, seval, ↓reduceIte]
              refine hK _ ?_
              clear hK K
              refine AW.condS (by simp -implicitDefEqProofs only [go_sem, seval, ↓reduceIte]; rfl) (fun h => ?_) (fun h => ?_)
              · refine AW.seq_k fun K hK => AW.region (by kernel_rfl) ?_
                simp -implicitDefEqProofs only [go_sem, seval, ↓reduceIte]
                refine CallA.pure hG (by kernel_rfl) ?_
                simp -implicitDefEqProofs only [go_sem, seval, ↓reduceIte]
                refine (nDiv_spec G hG a b ha hb).mono ?_
                rintro _ _ rfl
                simp -implicitDefEqProofs only [go_sem, seval, ↓reduceIte, encR]
                refine hK _ ?_
                clear hK K
                refine AW.region (by kernel_rfl) ?_
                simp -implicitDefEqProofs only [go_sem, seval, ↓reduceIte]
                refine CallA.pure hG (by kernel_rfl) ?_
                simp -implicitDefEqProofs only [go_sem, seval, ↓reduceIte]
                refine (rDivN_spec G hG a b ha hb).mono ?_
                rintro _ _ rfl
                simp -implicitDefEqProofs only [go_sem, seval, ↓reduceIte, encR]
                exact hK4 _ (divR a b) trivial (Weak.st (by simp -implicitDefEqProofs only [go_sem, seval, ↓reduceIte]) (by simp -implicitDefEqProofs only [go_sem, seval, ↓reduceIte]))
              · cases h
      | 4, _ =>
        refine AW.seq_k fun K hK => AW.region (by kernel_rfl) ?_
        simp -implicitDefEqProofs only [go_sem, seval, ↓reduceIte]
        refine hK _ ?_
        clear hK K
        refine AW.condS (by simp -implicitDefEqProofs only [go_sem, seval, ↓reduceIte]; rfl) (fun h => ?_) (fun h => ?_)
        · cases h
        · refine AW.seq_k fun K hK => AW.region (by kernel_rfl) ?_
          simp -implicitDefEqProofs only [go_sem, seval, ↓reduceIte]
          refine hK _ ?_
          clear hK K
          refine AW.condS (by simp -implicitDefEqProofs only [go_sem, seval, ↓reduceIte]; rfl) (fun h => ?_) (fun h => ?_)
          · cases h
          · refine AW.seq_k fun K hK => AW.region (by kernel_rfl) ?_
            simp -implicitDefEqProofs only [go_sem, seval, ↓reduceIte]
            refine hK _ ?_
            clear hK K
            refine AW.condS (by simp -implicitDefEqProofs only [go_sem, seval, ↓reduceIte]; rfl) (fun h => ?_) (fun h => ?_)
            · cases h
            · refine AW.seq_k fun K hK => AW.region (by kernel_rfl) ?_
              simp -implicitDefEqProofs only [go_sem, seval, ↓reduceIte]
              refine hK _ ?_
              clear hK K
              refine AW.condS (by simp -implicitDefEqProofs only [go_sem, seval, ↓reduceIte]; rfl) (fun h => ?_) (fun h => ?_)
              · cases h
              · refine AW.seq_k fun K hK => AW.region (by kernel_rfl) ?_
                simp -implicitDefEqProofs only [go_sem, seval, ↓reduceIte]
                refine hK _ ?_
                clear hK K
                refine AW.condS (by simp -implicitDefEqProofs only [go_sem, seval, ↓reduceIte]; rfl) (fun h => ?_) (fun h => ?_)
                · refine AW.seq_k fun K hK => AW.region (by kernel_rfl) ?_
                  simp -implicitDefEqProofs only [go_sem, seval, ↓reduceIte]
                  refine CallA.pure hG (by kernel_rfl) ?_
                  simp -implicitDefEqProofs only [go_sem, seval, ↓reduceIte]
                  refine (nMod_spec G hG a b ha hb).mono ?_
                  rintro _ _ rfl
                  simp -implicitDefEqProofs only [go_sem, seval, ↓reduceIte, encR]
                  refine hK _ ?_
                  clear hK K
                  refine AW.region (by kernel_rfl) ?_
                  simp -implicitDefEqProofs only [go_sem, seval, ↓reduceIte]
                  refine CallA.pure hG (by kernel_rfl) ?_
                  simp -implicitDefEqProofs only [go_sem, seval, ↓reduceIte]
                  refine (rModN_spec G hG a b ha hb).mono ?_
                  rintro _ _ rfl
                  simp -implicitDefEqProofs only [go_sem, seval, ↓reduceIte, encR]
                  exact hK4 _ (modR a b) trivial (Weak.st (by simp -implicitDefEqProofs only [go_sem, seval, ↓reduceIte]) (by simp -implicitDefEqProofs only [go_sem, seval, ↓reduceIte]))
                · cases h
      | 5, _ =>
        refine AW.seq_k fun K hK => AW.region (by kernel_rfl) ?_
        simp -implicitDefEqProofs only [go_sem, seval, ↓reduceIte]
        refine hK _ ?_
        clear hK K
        refine AW.condS (by simp -implicitDefEqProofs only [go_sem, seval, ↓reduceIte]; rfl) (fun h => ?_) (fun h => ?_)
        · cases h
        · refine AW.seq_k fun K hK => AW.region (by kernel_rfl) ?_
          simp -implicitDefEqProofs only [go_sem, seval, ↓reduceIte]
          refine hK _ ?_
          clear hK K
          refine AW.condS (by simp -implicitDefEqProofs only [go_sem, seval, ↓reduceIte]; rfl) (fun h => ?_) (fun h => ?_)
          · cases h
          · refine AW.seq_k fun K hK => AW.region (by kernel_rfl) ?_
            simp -implicitDefEqProofs only [go_sem, seval, ↓reduceIte]
            refine hK _ ?_
            clear hK K
            refine AW.condS (by simp -implicitDefEqProofs only [go_sem, seval, ↓reduceIte]; rfl) (fun h => ?_) (fun h => ?_)
            · cases h
            · refine AW.seq_k fun K hK => AW.region (by kernel_rfl) ?_
              simp -implicitDefEqProofs only [go_sem, seval, ↓reduceIte]
              refine hK _ ?_
              clear hK K
              refine AW.condS (by simp -implicitDefEqProofs only [go_sem, seval, ↓reduceIte]; rfl) (fun h => ?_) (fun h => ?_)
              · cases h
              · refine AW.seq_k fun K hK => AW.region (by kernel_rfl) ?_
                simp -implicitDefEqProofs only [go_sem, seval, ↓reduceIte]
                refine hK _ ?_
                clear hK K
                refine AW.condS (by simp -implicitDefEqProofs only [go_sem, seval, ↓reduceIte]; rfl) (fun h => ?_) (fun h => ?_)
                · cases h
                · refine AW.seq_k fun K hK => AW.region (by kernel_rfl) ?_
                  simp -implicitDefEqProofs only [go_sem, seval, ↓reduceIte]
                  refine CallA.pure hG (by kernel_rfl) ?_
                  simp -implicitDefEqProofs only [go_sem, seval, ↓reduceIte]
                  refine (nNeg_spec G hG a ha).mono ?_
                  rintro _ _ rfl
                  simp -implicitDefEqProofs only [go_sem, seval, ↓reduceIte, encR]
                  refine hK _ ?_
                  clear hK K
                  refine AW.region (by kernel_rfl) ?_
                  simp -implicitDefEqProofs only [go_sem, seval, ↓reduceIte]
                  refine CallA.pure hG (by kernel_rfl) ?_
                  simp -implicitDefEqProofs only [go_sem, seval, ↓reduceIte]
                  refine (rNegN_spec G hG a ha).mono ?_
                  rintro _ _ rfl
                  simp -implicitDefEqProofs only [go_sem, seval, ↓reduceIte, encR]
                  exact hK4 _ (told (-a)) trivial (Weak.st (by simp -implicitDefEqProofs only [go_sem, seval, ↓reduceIte]) (by simp -implicitDefEqProofs only [go_sem, seval, ↓reduceIte]))
    · intro p _
      refine AW.seq_k fun K hK => AW.region (by kernel_rfl) ?_
      simp -implicitDefEqProofs only [go_sem, seval, ↓reduceIte, bne_self_eq_false]
      refine hK _ ?_
      clear hK K
      refine AW.condS (by simp -implicitDefEqProofs only [go_sem, seval, ↓reduceIte]; rfl) (fun h7 => ?_) (fun h7 => ?_)
      · cases h7
      · refine AW.skip ?_
        simp -implicitDefEqProofs only [go_sem, seval, ↓reduceIte]
        refine hK5 _ ?_
        refine AW.region (by kernel_rfl) ?_
        simp -implicitDefEqProofs only [go_sem, seval, ↓reduceIte]
        refine hL2 _ ⟨hk1, (), trivial, Weak.st (by simp -implicitDefEqProofs only [go_sem, seval, ↓reduceIte]; exact congrArg _ (by rw [w64 (by omega) (by omega)]; omega)) (by simp -implicitDefEqProofs only [go_sem, seval, ↓reduceIte])⟩
  · refine AW.exit ?_
    simp -implicitDefEqProofs only [go_sem, seval, ↓reduceIte]
    refine hK1 _ ?_
    refine AW.seq_k fun K hK => AW.region (by kernel_rfl) ?_
    simp -implicitDefEqProofs only [go_sem, seval, ↓reduceIte]
    refine CallA.pure hG (by kernel_rfl) ?_
    simp -implicitDefEqProofs only [go_sem, seval, ↓reduceIte]
    refine (works_spec G hN).mono ?_
    rintro _ _ rfl
    simp -implicitDefEqProofs only [go_sem, seval, ↓reduceIte]
    refine hK _ ?_
    clear hK K
    refine AW.ret ?_
    simp -implicitDefEqProofs only [go_sem, seval, ↓reduceIte]
    refine endK_some ?_
    rfl
/- NumTexts -/
theorem lawTexts_spec (G : Nat → V) (hN : GNum G) (s : List UInt8) (n : Int) (hn : InK .i64 n) : Spec Tryd.prog G 4 [.str s, .int .i64 n] hNone (fun v _ => v = .bool true) := by
  have hG := hN.ok
  refine Spec.of_code' 0 41 [.tmp 4] Tryd.func4 rfl rfl rfl rfl fun X => ?_
  refine AW.seq_k fun K hK => AW.region (by kernel_rfl) ?_
  simp -implicitDefEqProofs only [go_sem, seval, ↓reduceIte]
  refine hK _ ?_
  clear hK K
  refine AW.seq_k fun K1 hK1 => ?_
  refine AW.seq_k fun K hK => AW.region (by kernel_rfl) ?_
  simp -implicitDefEqProofs only [go_sem, seval, ↓reduceIte]
  refine hK _ ?_
  clear hK K
  refine AW.condS (by simp -implicitDefEqProofs only [go_sem, seval, ↓reduceIte]; rfl) (fun h2 => ?_) (fun h2 => ?_)
  · refine AW.seq_k fun K hK => AW.region (by kernel_rfl) ?_
    simp -implicitDefEqProofs only [go_sem, seval, ↓reduceIte]
    refine CallA.pure hG (by kernel_rfl) ?_
    simp -implicitDefEqProofs only [go_sem, seval, ↓reduceIte]
    refine (works_spec G hN).mono ?_
    rintro _ _ rfl
    simp -implicitDefEqProofs only [go_sem, seval, ↓reduceIte]
    refine hK _ ?_
    clear hK K
    refine AW.ret ?_
    simp -implicitDefEqProofs only [go_sem, seval, ↓reduceIte]
    refine endK_some ?_
    rfl
  · have hs : s.length < 1000000 := by have := of_decide_eq_false h2; omega
    refine AW.skip ?_
    simp -implicitDefEqProofs only [go_sem, seval, ↓reduceIte]
    refine hK1 _ ?_
    refine AW.seq_k fun K hK => AW.region (by kernel_rfl) ?_
    simp -implicitDefEqProofs only [go_sem, seval, ↓reduceIte]
    refine CallA.pure hG (by kernel_rfl) ?_
    simp -implicitDefEqProofs only [go_sem, seval, ↓reduceIte]
    refine (nParse_spec G hN s hs).mono ?_
    rintro _ _ rfl
    simp -implicitDefEqProofs only [go_sem, seval, ↓reduceIte, encR]
    refine hK _ ?_
    clear hK K
    refine AW.seq_k fun K hK => AW.region (by kernel_rfl) ?_
    simp -implicitDefEqProofs only [go_sem, seval, ↓reduceIte]
    refine CallA.pure hG (by kernel_rfl) ?_
    simp -implicitDefEqProofs only [go_sem, seval, ↓reduceIte]
    refine (rParse_spec G hG s hs).mono ?_
    rintro _ _ rfl
    simp -implicitDefEqProofs only [go_sem, seval, ↓reduceIte, encR]
    refine hK _ ?_
    clear hK K
    refine AW.seq_k fun K hK => AW.region (by kernel_rfl) ?_
    simp -implicitDefEqProofs only [go_sem, seval, ↓reduceIte, beq_self_eq_true]
    refine CallA.pure hG (by kernel_rfl) ?_
    simp -implicitDefEqProofs only [go_sem, seval, ↓reduceIte]
    refine (nPut_spec G hN n hn).mono ?_
    rintro _ _ rfl
    simp -implicitDefEqProofs only [go_sem, seval, ↓reduceIte]
    refine CallA.pure hG (by kernel_rfl) ?_
    simp -implicitDefEqProofs only [go_sem, seval, ↓reduceIte]
    refine (rPut_spec G hG n hn).mono ?_
    rintro _ _ rfl
    simp -implicitDefEqProofs only [go_sem, seval, ↓reduceIte, beq_self_eq_true]
    refine CallA.pure hG (by kernel_rfl) ?_
    simp -implicitDefEqProofs only [go_sem, seval, ↓reduceIte]
    refine (works_spec G hN).mono ?_
    rintro _ _ rfl
    simp -implicitDefEqProofs only [go_sem, seval, ↓reduceIte]
    refine hK _ ?_
    clear hK K
    refine AW.ret ?_
    simp -implicitDefEqProofs only [go_sem, seval, ↓reduceIte]
    refine endK_some ?_
    rfl
/- NumSums -/
theorem lawSums_spec (G : Nat → V) (hN : GNum G) (c : Col) (s : Sl Int) (hx : ∀ x ∈ s.l, InK .i64 x) : Spec Tryd.prog G 3 [encSl c 1 (V.int .i64) s] hNone (fun v _ => v = .bool true) := by
  have hG := hN.ok
  refine Spec.of_code' 0 52 [.tmp 2] Tryd.func3 rfl rfl rfl rfl fun X => ?_
  refine AW.seq_k fun K hK => AW.region (by kernel_rfl) ?_
  simp -implicitDefEqProofs only [go_sem, seval, ↓reduceIte]
  refine hK _ ?_
  clear hK K
  refine AW.seq_k fun K1 hK1 => ?_
  refine AW.seq_k fun K hK => AW.region (by kernel_rfl) ?_
  simp -implicitDefEqProofs only [go_sem, seval, ↓reduceIte]
  refine hK _ ?_
  clear hK K
  refine AW.condS (by simp -implicitDefEqProofs only [go_sem, seval, ↓reduceIte]; rfl) (fun h2 => ?_) (fun h2 => ?_)
  · refine AW.seq_k fun K hK => AW.region (by kernel_rfl) ?_
    simp -implicitDefEqProofs only [go_sem, seval, ↓reduceIte]
    refine CallA.pure hG (by kernel_rfl) ?_
    simp -implicitDefEqProofs only [go_sem, seval, ↓reduceIte]
    refine (works_spec G hN).mono ?_
    rintro _ _ rfl
    simp -implicitDefEqProofs only [go_sem, seval, ↓reduceIte]
    refine hK _ ?_
    clear hK K
    refine AW.ret ?_
    simp -implicitDefEqProofs only [go_sem, seval, ↓reduceIte]
    refine endK_some ?_
    rfl
  · have hs : s.l.length < 1000000 := by have := of_decide_eq_false h2; omega
    refine AW.skip ?_
    simp -implicitDefEqProofs only [go_sem, seval, ↓reduceIte]
    refine hK1 _ ?_
    refine AW.seq_k fun K hK => AW.region (by kernel_rfl) ?_
    simp -implicitDefEqProofs only [go_sem, seval, ↓reduceIte]
    refine hK _ ?_
    clear hK K
    refine AW.seq_k fun K hK => AW.region (by kernel_rfl) ?_
    simp -implicitDefEqProofs only [go_sem, seval, ↓reduceIte]
    refine app_grown (f := V.int .i64) (l := []) (l2 := s.l) (g := 0) (fun _ => rfl) rfl rfl rfl rfl (roomOk_of (by omega) (by simp; omega)) fun g15 => ?_
    simp -implicitDefEqProofs only [go_sem, seval, ↓reduceIte, List.nil_append]
    refine hK _ ?_
    clear hK K
    refine AW.weak (Weak.stF (fun o => o == 15) (l := [(0, encSl c 1 (V.int .i64) s), (3, encSl .new 1 (V.int .i64) (grownS s.l))]) (m := []) ?_ trivial) ?_
    · simp -implicitDefEqProofs only [go_sem, seval, ↓reduceIte]
      exact ⟨Fz.same _, Fz.grown rfl rfl (fun _ => rfl)⟩
    have hxg : ∀ x ∈ (grownS s.l).l, InK .i64 x := by rw [grownS_l]; exact hx
    have hsg : (grownS s.l).l.length < 1000000 := by rw [grownS_l]; exact hs
    refine AW.seq_k fun K hK => AW.region (by kernel_rfl) ?_
    simp -implicitDefEqProofs only [go_sem, seval, ↓reduceIte]
    refine CallA.pure hG (by kernel_rfl) ?_
    simp -implicitDefEqProofs only [go_sem, seval, ↓reduceIte]
    refine (nSumN_spec G hG _ (grownS s.l) hxg hsg).mono ?_
    rintro _ _ rfl
    simp -implicitDefEqProofs only [go_sem, seval, ↓reduceIte, encR]
    refine hK _ ?_
    clear hK K
    refine AW.seq_k fun K hK => AW.region (by kernel_rfl) ?_
    simp -implicitDefEqProofs only [go_sem, seval, ↓reduceIte]
    refine CallA.pure hG (by kernel_rfl) ?_
    simp -implicitDefEqProofs only [go_sem, seval, ↓reduceIte]
    refine (rSumN_spec G hG _ s hx hs).mono ?_
    rintro _ _ rfl
    simp -implicitDefEqProofs only [go_sem, seval, ↓reduceIte, encR]
    refine hK _ ?_
    clear hK K
    obtain ⟨p1, p2⟩ := sumR 0 s.l
    refine AW.seq_k fun K2 hK2 => ?_
    refine AW.seq_k fun K hK => AW.region (by kernel_rfl) ?_
    simp -implicitDefEqProofs only [go_sem, seval, ↓reduceIte]
    refine hK _ ?_
    clear hK K
    refine AW.block ?_
    refine AW.for s.l.length (fun k (_ : Unit) => st [(0, encSl c 1 (V.int .i64) s), (3, encSl .new 1 (V.int .i64) (grownS s.l)), (4, .int .i64 p1), (5, .int .i64 p2), (6, .int .i64 p1), (7, .int .i64 p2), (8, .int .i64 k)] []) (fun k _ => True) 0 () (Nat.zero_le _) trivial
      (Weak.st (by simp -implicitDefEqProofs only [go_sem, seval, ↓reduceIte]; try rfl) (by simp -implicitDefEqProofs only [go_sem, seval, ↓reduceIte]; try rfl)) ?_
    intro k _ hk _ L2 hL2
    refine AW.seq_k fun K3 hK3 => ?_
    refine AW.seq_k fun K hK => AW.region (by kernel_rfl) ?_
    simp -implicitDefEqProofs only [go_sem, seval, ↓reduceIte]
    refine hK _ ?_
    clear hK K
    refine AW.condS (by simp -implicitDefEqProofs only [go_sem, seval, ↓reduceIte]; rfl) (fun h4 => ?_) (fun h4 => ?_)
    · have hk1 : k < s.l.length := by have := of_decide_eq_true h4; omega
      have g2 := List.getElem?_eq_getElem hk1
      generalize s.l[k] = x at g2
      refine AW.skip ?_
      simp -implicitDefEqProofs only [go_sem, seval, ↓reduceIte]
      refine hK3 _ ?_
      refine AW.seq_k fun K5 hK5 => ?_
      refine AW.block ?_
      refine AW.seq_k fun K hK => AW.regionT ⟨fun _ => .top, fun _ => .pure⟩ (by kernel_rfl) hG (by kernel_rfl) (by kernel_rfl) ?_
      simp -implicitDefEqProofs only [go_sem, seval, ↓reduceIte, g2, bne_self_eq_false]
      refine hK _ ?_
      clear hK K
      refine AW.condS (by simp -implicitDefEqProofs only [go_sem, seval, ↓reduceIte]; rfl) (fun h7 => ?_) (fun h7 => ?_)
      · cases h7
      · refine AW.skip ?_
        simp -implicitDefEqProofs only [go_sem, seval, ↓reduceIte]
        refine hK5 _ ?_
        refine AW.region (by kernel_rfl) ?_
        simp -implicitDefEqProofs only [go_sem, seval, ↓reduceIte]
        refine hL2 _ ⟨hk1, (), trivial, Weak.st (by simp -implicitDefEqProofs only [go_sem, seval, ↓reduceIte]; exact congrArg _ (by rw [w64 (by omega) (by omega)]; omega)) (by simp -implicitDefEqProofs only [go_sem, seval, ↓reduceIte])⟩
    · refine AW.exit ?_
      simp -implicitDefEqProofs only [go_sem, seval, ↓reduceIte]
      refine hK2 _ ?_
      refine AW.seq_k fun K hK => AW.region (by kernel_rfl) ?_
      simp -implicitDefEqProofs only [go_sem, seval, ↓reduceIte, beq_self_eq_true]
      refine CallA.pure hG (by kernel_rfl) ?_
      simp -implicitDefEqProofs only [go_sem, seval, ↓reduceIte]
      refine (works_spec G hN).mono ?_
      rintro _ _ rfl
      simp -implicitDefEqProofs only [go_sem, seval, ↓reduceIte]
      refine hK _ ?_
      clear hK K
      refine AW.ret ?_
      simp -implicitDefEqProofs only [go_sem, seval, ↓reduceIte]
      refine endK_some ?_
      rfl
end Go.Hs
end

section
namespace Go.Proofs.YtkljnnbncaolaaaDoor
open Go.RowKit Go.Hs
set_option maxRecDepth 100000
/-- What the statements of this seat list. -/
def laidAll : List (String × DataW Unit) := [("math/bits.deBruijn32tab", Rows.laid_math_bits_deBruijn32tab), ("math/bits.deBruijn64tab", Rows.laid_math_bits_deBruijn64tab), ("internal/strconv.uint64pow10", Rows.laid_internal_strconv_uint64pow10), ("strconv.ErrRange", Rows.laid_strconv_ErrRange), ("strconv.ErrSyntax", Rows.laid_strconv_ErrSyntax)]
/-! ### A world that meets it -/
noncomputable def low : Nat := (World.holding Tryd.prog default ⟨#[], #[], []⟩).heap.size
def b32 : List Int := [0, 1, 28, 2, 29, 14, 24, 3, 30, 22, 20, 15, 25, 17, 4, 8, 31, 27, 13, 23, 21, 19, 16, 7, 26, 12, 18, 6, 11, 5, 10, 9]
def b64 : List Int := [0, 1, 56, 2, 57, 49, 28, 3, 61, 58, 42, 50, 38, 29, 17, 4, 62, 47, 59, 36, 45, 43, 51, 22, 53, 39, 33, 30, 24, 18, 12, 5, 63, 55, 48, 27, 60, 41, 37, 16, 46, 35, 44, 21, 52, 32, 23, 11, 54, 26, 40, 15, 34, 20, 31, 10, 25, 14, 19, 9, 13, 8, 7, 6]
def errR : ByteArray := { data := #[118, 97, 108, 117, 101, 32, 111, 117, 116, 32, 111, 102, 32, 114, 97, 110, 103, 101] }
def errS : ByteArray := { data := #[105, 110, 118, 97, 108, 105, 100, 32, 115, 121, 110, 116, 97, 120] }
def withCells (cs : Array Value) : Obj → Obj
  | .cells _ t frozen => .cells cs t frozen
  | o => o
noncomputable def laidWorld (os : Os) : World :=
  let w0 := World.holding Tryd.prog os ⟨#[.cells #[.string errR] 111, .cells #[.string errS] 111], #[], []⟩
  { w0 with heap := ((((w0.heap.modify 0 (withCells #[.iface 109 (.pointer (some ⟨low, 0, none⟩))])).modify 1 (withCells #[.iface 109 (.pointer (some ⟨low + 1, 0, none⟩))])).modify 2
      (withCells (Lib.pow10Tab.map (Value.int .u64)).toArray)).modify 3 (withCells (b32.map (Value.int .u8)).toArray)).modify 4 (withCells (b64.map (Value.int .u8)).toArray) }
theorem laidWorld_met (os : Os) (args : Array Value) : laidMet Tryd.prog laidAll ((laidWorld os).forCall (fun _ _ => 0) ⟨#[], args, []⟩).memory :=
  laidMet_of_run' 8 (by kernel_rfl) (by kernel_rfl)
end Go.Proofs.YtkljnnbncaolaaaDoor
end

section
namespace Go.Proofs.YtkljnnbncaolaaaDoor
open Go.RowKit Go.Hs
set_option maxRecDepth 100000
theorem laidMet_tail {P : Program} {W : World} {x : String × DataW Unit} {r : List (String × DataW Unit)} (h : laidMet P (x :: r) W) : laidMet P r W := by
  obtain ⟨n, d⟩ := x
  obtain ⟨ps, ⟨g0, t0, cs0, f0, p0, q0, hg0, ht0, hv0, hd0, hq, e0⟩, hnd, hrows⟩ := h
  subst e0
  exact ⟨q0, hq, (List.nodup_append.1 hnd).2.1, fun b off hm => hrows b off (List.mem_append.2 (.inr hm))⟩
/-- What is known of the package-level variables. -/
noncomputable def gN : Nat → V := fun g => if g = 0 then .view .old (.iface 109 (.view .old (.agg []))) else if g = 2 then .view .old (.agg (Lib.pow10Tab.map (V.int .u64))) else .top
theorem recolL_ints (f : Col → Col) : ∀ l : List Int, V.recolL f (l.map (V.int .u64)) = l.map (V.int .u64)
  | [] => rfl
  | x :: r => by simp only [List.map_cons, V.recolL]; rw [recolL_ints f r]; rfl
theorem gN_ok : GNum gN where
  ok := fun g => by
    unfold gN
    split
    · exact ⟨rfl, .view _ _ fun x hx => by simp [V.cells] at hx; subst hx; exact .iface _ _ (.view _ _ fun x hx => by simp [V.cells] at hx)⟩
    · split
      · refine ⟨by simp only [V.recol, Col.ent, recolL_ints], .view _ _ fun x hx => ?_⟩
        obtain ⟨n, _, rfl⟩ := List.mem_map.1 hx
        exact .int _ _
      · exact ⟨rfl, .top⟩
  er := ⟨_, _, _, rfl⟩
  tab := ⟨_, rfl⟩
theorem gER : Tryd.prog.globalNamed "strconv.ErrRange" = some 0 := by kernel_rfl
theorem gERType : (Tryd.prog.globals[0]?).map (·.type) = some 39 := by kernel_rfl
theorem cells111 : Tryd.prog.cellsOf 111 = 1 := by kernel_rfl
theorem cells9 : Tryd.prog.cellsOf 9 = 1 := by kernel_rfl
theorem star : "*" ++ "errors.errorString" = "*errors.errorString" := by decide
theorem row109 (u : TypeId) (h : Tryd.prog.typeName? 3 u = some "*errors.errorString") : u = 109 :=
  typeName_ptr_named (nm := "errors.errorString") (by rw [star]; kernel_rfl) (by kernel_rfl) (by decide) u (by rw [star]; exact h)
theorem gTab : Tryd.prog.globalNamed "internal/strconv.uint64pow10" = some 2 := by kernel_rfl
theorem gTabType : ∃ t n, (Tryd.prog.globals[2]?).map (·.type) = some t ∧ Tryd.prog.underlying t = some (.array n 53) ∧ Tryd.prog.cellsOf t = n ∧ n = 20 := by
  refine ⟨(((Tryd.prog.globals[2]?).map (·.type)).getD 0), 20, by kernel_rfl, by kernel_rfl, by kernel_rfl, rfl⟩
theorem laid_tab {W : World} (h : laidMet Tryd.prog laidAll W) : Lib.TabIs Tryd.prog W "internal/strconv.uint64pow10" .u64 Lib.pow10Tab := by
  obtain ⟨t, n, h1, h2, h3, rfl⟩ := gTabType
  have e : (Rows.laid_internal_strconv_uint64pow10 : DataW Unit) = Lib.tabData .u64 Lib.pow10Tab := by rfl
  have h4 := laidMet_tail (laidMet_tail h)
  rw [e] at h4
  exact Lib.tabIs_of_head gTab h1 h2 Tryd.underlying53 (by kernel_rfl) h3 h4
theorem laid_err {W : World} (h : laidMet Tryd.prog laidAll W) : ∃ b off, W.cell? ⟨0, 0, none⟩ = some (.iface 109 (.pointer (some ⟨b, off, none⟩))) := by
  obtain ⟨a, s, h1, h2, _, _⟩ := laid_sentinel (laidMet_tail (laidMet_tail (laidMet_tail h))) gER gERType Tryd.underlying39 row109 Tryd.underlying109 Tryd.underlying111 rfl rfl Tryd.underlying9 cells111 cells9
  have h0 := World.var?_cell gER h1 0
  have hs := World.cell?_spot h2
  obtain ⟨b, off, sp⟩ := a
  have hs : sp = none := hs
  subst hs
  exact ⟨b, off, by simpa using h0⟩
/-- **From the statement's condition to what the contracts ask.** -/
theorem laid_G {W : World} (h : laidMet Tryd.prog laidAll W) : ∀ g, RelG (Cx.ofW W) g (gN g) := by
  intro g
  unfold gN
  split
  · rename_i hg
    subst hg
    obtain ⟨b, off, h1⟩ := laid_err h
    refine ⟨?_, trivial⟩
    refine .view .old _ 0 0 (fun _ => .iface 109 (.pointer (some ⟨b, off, none⟩))) (fun i hi => ?_) (fun i hi => ?_)
    · have : i = 0 := by simpa [V.cells] using hi
      subst this
      refine ⟨by show (W.cell? _).isSome = true; rw [h1]; rfl, World.block_lt_of_cell? _ _ h1, h1, rfl⟩
    · have : i = 0 := by simpa [V.cells] using hi
      subst this
      exact .iface _ _ _ (.view .old _ b off (fun _ => .nilIface) (fun i hi => by simp [V.cells] at hi) (fun i hi => by simp [V.cells] at hi))
  · split
    · rename_i hg
      subst hg
      have ht := laid_tab h
      have hc : ∀ i (hi : i < Lib.pow10Tab.length), W.cell? ⟨2, i, none⟩ = some (.int .u64 (Lib.pow10Tab.getD i 0)) := fun i hi => ht.cell gTab i hi
      have hlen : Lib.pow10Tab.length = 20 := Lib.pow10Tab_length
      have hlt : 2 < W.heap.size := World.block_lt_of_cell? _ _ (hc 0 (by omega))
      have hv : W.var? Tryd.prog "internal/strconv.uint64pow10" = some (Lib.pow10Tab.map fun z => Value.int .u64 z).toArray := ht
      refine ⟨?_, ?_⟩
      · refine .view .old _ 2 0 (fun i => .int .u64 (Lib.pow10Tab.getD i 0)) (fun i hi => ?_) (fun i hi => ?_)
        · have hi : i < Lib.pow10Tab.length := by simpa [V.cells] using hi
          rw [Nat.zero_add]
          exact ⟨by show (W.cell? _).isSome = true; rw [hc i hi]; rfl, hlt, hc i hi, rfl⟩
        · have hi' : i < Lib.pow10Tab.length := by simpa [V.cells] using hi
          have key : ∀ v, v = V.int .u64 (Lib.pow10Tab.getD i 0) → Rel (Cx.ofW W) (Value.int .u64 (Lib.pow10Tab.getD i 0)) v := fun v e => by rw [e]; exact .int _ _
          exact key _ (by simp [V.cells, List.getD, hi'])
      · refine ⟨hlt, ?_⟩
        unfold World.var? at hv
        rw [gTab] at hv
        have hv : (match W.heap[2]? with | some (Obj.cells cs _ _) => some cs | _ => none) = some (Lib.pow10Tab.map fun z => Value.int .u64 z).toArray := hv
        split at hv
        · rename_i cs t fr hh
          cases hv
          exact ⟨_, t, fr, hh, by simp⟩
        · cases hv
    · exact ⟨.top _, trivial⟩
end Go.Proofs.YtkljnnbncaolaaaDoor
end

section
namespace Go.Proofs.YtkljnnbncaolaaaDoor
open Go.RowKit Go.Hs Go.ChangeShapes Go.WideShapes Go.ChangeAt
open Go.ChangeMaps (open_string shut_string)
set_option maxRecDepth 100000
abbrev NK := { n : Int // InK .i64 n }
theorem inK_of_wf {k : IntKind} {n : Int} (h : (Lit.int k n).wf = true) : InK k n := by
  simpa [Lit.wf, InK] using h
theorem reads_nk (W : World) {t : TypeId} (ht : Tryd.prog.underlying t = some (.int .i64)) (hc : Tryd.prog.cellsOf t = 1) : Reads Tryd.prog W t 1 (fun n : NK => [V.int .i64 n.1]) := by
  refine ⟨hc, fun _ => rfl, fun enc held fuel cs x h => ?_⟩
  obtain ⟨n, rfl, _, hw⟩ := DataW.trod_int ht h
  exact ⟨⟨n, inK_of_wf hw⟩, RelC.cons rfl (.int _ _) RelC.nil⟩
theorem reads_list (W : World) : Reads Tryd.prog W 22 1 (fun s : Sl NK => [encSl .any 1 (fun n : NK => V.int .i64 n.1) s]) :=
  Reads.slice Tryd.underlying22 (by kernel_rfl) (by decide) (reads_nk W Tryd.underlying2 (by kernel_rfl))
def unK : Sl NK → Sl Int
  | .nil => .nil
  | .mk b l => .mk b (l.map (·.1))
theorem unK_in (s : Sl NK) : ∀ x ∈ (unK s).l, InK .i64 x := by
  cases s with
  | nil => intro x hx; cases hx
  | mk b l =>
    intro x hx
    obtain ⟨y, _, rfl⟩ := List.mem_map.1 hx
    exact y.2
theorem unK_enc (c : Col) (s : Sl NK) : encSl c 1 (fun n : NK => V.int .i64 n.1) s = encSl c 1 (V.int .i64) (unK s) := by
  cases s with
  | nil => rfl
  | mk b l => simp only [encSl, unK, List.map_map]; rfl
variable {W : World} {H : Type} {enc : TypeId × Value → H} {b0 : Nat} {v : Value} {d : DataW H} {ps : List MemPlace}
theorem argI (hv : Value.okWide Tryd.prog W .any b0 2 v) (h : DataW.Trod enc Tryd.prog W 0 (fun _ => true) true 2 v d ps) : ∃ x : Int, InK .i64 x ∧ Rel (Cx.ofW W) v (.int .i64 x) := by
  obtain ⟨n, rfl, _, _, hw⟩ := open_int Tryd.underlying2 hv h
  exact ⟨n, inK_of_wf hw, .int _ _⟩
theorem argS (hv : Value.okWide Tryd.prog W .any b0 9 v) (h : DataW.Trod enc Tryd.prog W 0 (fun _ => true) true 9 v d ps) : ∃ x : List UInt8, Rel (Cx.ofW W) v (.str x) := by
  obtain ⟨s, rfl, _, _, _⟩ := open_string Tryd.underlying9 hv h
  exact ⟨_, .str s _ rfl⟩
theorem argL (hv : Value.okWide Tryd.prog W .any b0 22 v) (h : DataW.Trod enc Tryd.prog W 0 (fun _ => true) true 22 v d ps) : ∃ x : Sl Int, (∀ y ∈ x.l, InK .i64 y) ∧ Rel (Cx.ofW W) v (encSl .old 1 (V.int .i64) x) := by
  obtain ⟨fuel, h⟩ := h
  obtain ⟨x, hx⟩ := (reads_list W).2.2 enc true fuel _ _ h
  have key : Rel (Cx.ofW W) v (encSl .any 1 (V.int .i64) (unK x)) := by
    rw [← unK_enc]
    unfold Value.okWide at hv
    rw [Tryd.underlying22] at hv
    have hc : v.cells = #[v] := by
      unfold Cell.okWide Cell.ok at hv
      rw [Tryd.underlying22] at hv
      cases v <;> first | rfl | (simp at hv)
    rw [hc] at hx
    exact hx.rel 0 (by simp) (by simp)
  have h2 := key.ofW_old
  refine ⟨unK x, unK_in x, ?_⟩
  simpa only [go_sem, List.map_cons, List.map_nil] using h2
theorem own : ownKnob Tryd.prog.godebug = none := by kernel_rfl
theorem laidOut : laidOutB Tryd.prog = true := by kernel_rfl
end Go.Proofs.YtkljnnbncaolaaaDoor
end

section
namespace Go.Proofs.YtkljnnbncaolaaaDoor.numReckons
open Go.ChangeShapes Go.WideShapes Go.ChangeAt Go.RowKit Go.Hs
set_option linter.unusedVariables false
set_option maxRecDepth 100000
theorem lifted (os : Os) (started : os.Started) (H : Type) (enc : TypeId × Value → H) :
    ReturnsInHanded {} Tryd.checked os 5 .any (fun w args => (Rows.numReckonsSpec.pre enc Tryd.prog Tryd.f5 Rows.numReckonsRow.domain false w args ∧ laidMet Tryd.prog laidAll w) ∧ sizedMet enc Tryd.prog Tryd.f5 (OpenSpec.ofChange Rows.numReckonsSpec) false w args)
      (Rows.numReckonsSpec.post enc Tryd.prog Tryd.f5 false true false false) := by
  refine returnsInHanded_of_change_and (C := Tryd.checked) (X := fun w _ => laidMet Tryd.prog laidAll w) (fun _ _ _ hh h => h.of_heap hh) own started (by kernel_rfl) Tryd.func5
    (ChangeSpec.witness_at (enc := enc) (C := Tryd.checked) (os := os) (X := fun w _ => laidMet Tryd.prog laidAll w) false (laidWorld os) #[.int .i64 0, .int .i64 0] 8 rfl (by kernel_rfl) (by kernel_rfl) (by kernel_rfl) (by kernel_rfl) (by kernel_rfl) (laidWorld_met os _)) ?_
  intro W base args ds gs before hval0 hW hcnd0 _ hL _
  have hval : ∀ (j : Nat) t v, Tryd.f5.params[j]? = some t → args[j]? = some v → Value.okWide Tryd.prog W .any base t v := hval0
  have hW' := hW
  obtain ⟨p, q, hA0, hV, rfl, hfz, hnd⟩ := hW
  have hA : DataW.TrodAll enc Tryd.prog W 0 (fun _ => true) true Tryd.f5.params.toList args.toList ds p := hA0
  rw [Tryd.params5] at hA hval
  obtain ⟨v0, vs0, d0, ds0, p0, q0, hargs, rfl, rfl, h0, r0⟩ := trodAll_cons hA
  obtain ⟨v1, vs1, d1, ds1, p1, q1, rfl, rfl, rfl, h1, r1⟩ := trodAll_cons r0
  obtain ⟨rfl, rfl, rfl⟩ := trodAll_nil r1
  obtain rfl : args = #[v0, v1] := by cases args; simp_all
  obtain ⟨rfl, rfl⟩ := trodVars_none hV
  obtain ⟨x0, i0, hx0⟩ := argI (hval 0 2 v0 rfl rfl) h0
  obtain ⟨x1, i1, hx1⟩ := argI (hval 1 2 v1 rfl rfl) h1
  have hR : RelA (Cx.ofW W) #[v0, v1] [V.int .i64 x0, V.int .i64 x1] := by
    refine ⟨rfl, fun i k1 k2 => ?_⟩
    match i, k1 with
    | 0, _ => exact hx0
    | 1, _ => exact hx1
  refine (Spec.toCallsG (lawReckons_spec gN gN_ok x0 x1 i0 i1) (laid_G hL) hR).mono ?_
  rintro e W' ⟨c, v, H', Y, rfl, hr, rfl, hB⟩
  obtain rfl := hr.bool_inv
  have hlt0 : ∀ x ∈ p0, x.block < W.heap.size := fun x hx => by simpa using hW'.lt x (by simp [hx])
  have hlt1 : ∀ x ∈ p1, x.block < W.heap.size := fun x hx => by simpa using hW'.lt x (by simp [hx])
  have k0 := Below.trod laidOut (by kernel_rfl) (of_decide_eq_true (by kernel_rfl)) h0 hB hlt0
  have k1 := Below.trod laidOut (by kernel_rfl) (of_decide_eq_true (by kernel_rfl)) h1 hB hlt1
  refine ⟨_, rfl, _, _, _, [], p0 ++ (p1 ++ []), [], hW', ?_, ?_, rfl, hB.frame _, fun h => by cases h⟩
  · exact trodAll_cons_mk (shut_bool Tryd.underlying4 _) trodAll_mk0
  · exact trodAll_cons_mk k0 (trodAll_cons_mk k1 trodAll_mk0)
theorem over : Rows.numReckonsRow.holds Tryd.pinned (OpenSpec.ofChange Rows.numReckonsSpec) :=
  OpenClaim.holds_of_wide 5 Tryd.f5 rfl rfl rfl rfl rfl rfl rfl ⟨rfl, rfl, rfl, rfl, rfl⟩ rfl rfl rfl rfl rfl (by kernel_rfl) Tryd.func5 (by kernel_rfl)
    (of_decide_eq_true (by kernel_rfl)) (by unfold Func.isWrapper; first | (rw [if_pos (by decide +kernel)]; kernel_rfl) | (rw [if_neg (by decide +kernel)]; exact ⟨rfl, rfl⟩))
    (fun os started H enc _ => lifted os started H enc)
theorem wants (j : Nat) (t : TypeId) (h : Tryd.f5.params[j]? = some t) : Tryd.prog.wantsStandIn t = false := by
  rw [Tryd.params5] at h
  match j, h with
  | 0, h => exact (Option.some.inj h : 2 = t) ▸ (show Tryd.prog.wantsStandIn 2 = false by kernel_rfl)
  | 1, h => exact (Option.some.inj h : 2 = t) ▸ (show Tryd.prog.wantsStandIn 2 = false by kernel_rfl)
  | j + 2, h => cases h
/-- The statement. -/
theorem proved : Rows.NumReckonsCardSaid :=
  Claim7.holds_tied_plain_at .later [] [.data, .data, .data, .sentinel, .sentinel] true (true, "877afd20c642522f06f1a5d75ccce7ae95b6eb6e8d89feee8e41f62822dfb5f5") true
    over (fun _ h => by cases h) (by kernel_rfl) (fun _ h => by cases h) numReckons_row_tie rfl ⟨rfl, rfl⟩ (by kernel_rfl) rfl
    (fun f fn hf hfn => by
      obtain rfl : f = 5 := Option.some.inj ((show Tryd.prog.funcNamed "hopscotch/hopscotchlaw06.NumReckons" = some 5 by kernel_rfl).symm.trans hf) |>.symm
      obtain rfl : fn = Tryd.f5 := (Option.some.inj (Tryd.func5.symm.trans hfn)).symm
      exact ⟨by kernel_rfl, fun j t ht => wants j t ht⟩)
    (by kernel_rfl)
#print axioms proved
end Go.Proofs.YtkljnnbncaolaaaDoor.numReckons
end
