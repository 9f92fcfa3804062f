/- For every input DNumKnownS returns true, and its arguments read as before. No condition. -/
/- Part 35 of the proof of a statement of seat YtkljnnbncaolaaaDoor: HsDNumRefPut HsDNumWorks HsDNumLaws1 HsNumBackLaw HsDNumLaws2 HsDNumLaws3 HsDNumLaid HsDNumLaidG HsDNumArgs HsDNumKnownS. -/
import Derived.Test.YtkljnnbncaolaaaDoorPart31
import Derived.Test.YtkljnnbncaolaaaDoorPart34
import Derived.Test.YtkljnnbncaolaaaDoorPart33
import Derived.Test.YtkljnnbncaolaaaDoorRows
import Derived.ProofKit
import Derived.OpenShut
import Derived.LaidLaws
import Derived.Stop.LaidErr
import Derived.Lib.LaidTab
import Derived.Handed
import Derived.ChangeMaps5
import Derived.Test.YtkljnnbncaolaaaDoorTie
import Derived.Test.YtkljnnbncaolaaaDoorCards
set_option linter.unusedSimpArgs false
set_option linter.unusedVariables false
section
namespace Go.Hs
open Go.Proofs
set_option maxRecDepth 10000
/-- The digits, the least first, as they are written. -/
def chars (l : List Nat) : List UInt8 := (l.map fun d => UInt8.ofNat (48 + d)).reverse
theorem decDigits_dg (u : Nat) (h : 0 < u) : Lib.decDigits u = chars (dg u) := by
  induction u using Nat.strongRecOn with
  | _ u ih =>
    rw [Lib.decDigits, dg_pos h]
    by_cases h1 : u < 10
    · rw [dif_pos h1, show u / 10 = 0 by omega, dg_zero, Nat.mod_eq_of_lt h1]
      rfl
    · rw [dif_neg h1, ih (u / 10) (by omega) (by omega)]
      simp [chars]
theorem putR_dg (n : Int) : putR n = if n = 0 then [48] else if n < 0 then 45 :: chars (dg n.natAbs) else chars (dg n.natAbs) := by
  unfold putR Lib.itoa
  by_cases h0 : n = 0
  · subst h0
    simp
    rw [Lib.decDigits]
    simp
  · rw [if_neg h0]
    by_cases h1 : n < 0
    · rw [if_pos h1, if_pos h1, decDigits_dg _ (by omega)]
    · rw [if_neg h1, if_neg h1, show n.toNat = n.natAbs by omega, decDigits_dg _ (by omega)]
theorem chars_nil {l : List Nat} : chars l = [] ↔ l = [] := by simp [chars]
theorem chars_len (l : List Nat) : (chars l).length = l.length := by simp [chars]
theorem wu8 {n : Int} (h1 : 0 ≤ n) (h2 : n ≤ 255) : IntKind.u8.wrap n = n := by
  unfold IntKind.wrap
  simp [IntKind.signed, IntKind.bits]
  omega
/- ref06.Put -/
theorem rPut_spec (G : Nat → V) (hG : GOk G) (n : Int) (hn : InK .i64 n) : Spec Tryd.prog G 14 [.int .i64 n] hNone (fun v _ => v = .str (putR n)) := by
  have hn' := (inK_iff n).1 hn
  have hnl := nil_of (n := n)
  have hll := len_of hn
  have hdg := dig_dg n.natAbs
  have hn0 : dg n.natAbs = [] ↔ n = 0 := by rw [dg_ne]; omega
  rw [putR_dg]
  refine Spec.of_code' 0 33 [.tmp 2] Tryd.func14 rfl rfl rfl rfl fun X => ?_
  refine AW.seq_k fun K hK => AW.region (by kernel_rfl) ?_
  simp -implicitDefEqProofs only [go_sem, seval, ↓reduceIte]
  refine hK _ ?_
  clear hK K
  refine AW.seq_k fun K hK => AW.region (by kernel_rfl) ?_
  simp -implicitDefEqProofs only [go_sem, seval, ↓reduceIte]
  refine CallA.pure hG (by kernel_rfl) ?_
  simp -implicitDefEqProofs only [go_sem, seval, ↓reduceIte]
  refine (rOf_spec G hG n hn).mono ?_
  rintro _ _ rfl
  simp -implicitDefEqProofs only [go_sem, seval, ↓reduceIte, encLong]
  intro g3
  refine hK _ ?_
  clear hK K
  generalize decide (n = 0) = nl at hnl
  generalize hl : dg n.natAbs = l at hnl hll hdg hn0
  have hsl := slD_l hnl
  refine AW.seq_k fun K hK => AW.region (by kernel_rfl) ?_
  simp -implicitDefEqProofs only [go_sem, seval, ↓reduceIte]
  refine hK _ ?_
  clear hK K
  refine AW.seq_k fun K1 hK1 => ?_
  refine AW.seq_k fun K hK => AW.region (by kernel_rfl) ?_
  simp -implicitDefEqProofs only [go_sem, seval, ↓reduceIte]
  refine hK _ ?_
  clear hK K
  refine AW.block ?_
  refine AW.for l.length (fun k (_ : Unit) => st [(3, .ptr 3 g3 0), (4, .str (chars (l.take k))), (5, .int .i64 k)] [(3, .cells .new g3 0 [encSl .new 1 (V.int .i64) (slD nl l), .bool (decide (n < 0))])]) (fun k _ => True) 0 () (Nat.zero_le _) trivial
    (Weak.st (by simp -implicitDefEqProofs only [go_sem, seval, ↓reduceIte]; try rfl) (by simp -implicitDefEqProofs only [go_sem, seval, ↓reduceIte]; try rfl)) ?_
  intro k _ hk _ L2 hL2
  refine AW.seq_k fun K3 hK3 => ?_
  refine AW.seq_k fun K hK => AW.region (by kernel_rfl) ?_
  simp -implicitDefEqProofs only [go_sem, seval, ↓reduceIte, hsl, ints_len]
  refine hK _ ?_
  clear hK K
  refine AW.condS (by simp -implicitDefEqProofs only [go_sem, seval, ↓reduceIte]; rfl) (fun h4 => ?_) (fun h4 => ?_)
  · have hk1 : k < l.length := by have := of_decide_eq_true h4; omega
    refine AW.skip ?_
    simp -implicitDefEqProofs only [go_sem, seval, ↓reduceIte]
    refine hK3 _ ?_
    have g2 := ints_get_some (l := l) (k := k) hk1
    have h9 := getD_lt hdg k
    have htk : l.take (k + 1) = l.take k ++ [l.getD k 0] := by rw [List.take_succ_eq_append_getElem hk1, List.getD_eq_getElem?_getD, List.getElem?_eq_getElem hk1]; rfl
    generalize l.getD k 0 = d at g2 h9 htk
    have hch : chars (l.take (k + 1)) = UInt8.ofNat (48 + d) :: chars (l.take k) := by rw [htk]; simp [chars]
    have hw1 : IntKind.i64.wrap (48 + (d : Int)) = 48 + (d : Int) := w64 (by omega) (by omega)
    have hw2 : IntKind.u8.wrap (48 + (d : Int)) = 48 + (d : Int) := wu8 (by omega) (by omega)
    have hb : UInt8.ofNat (48 + (d : Int)).toNat = UInt8.ofNat (48 + d) := congrArg _ (by omega)
    have hlen : ¬ (((1 + (chars (l.take k)).length : Nat) : Int) > IntKind.i64.max) := by
      rw [show IntKind.i64.max = 9223372036854775807 from rfl, chars_len, List.length_take]; omega
    refine AW.seq_k fun K5 hK5 => ?_
    refine AW.block ?_
    refine AW.regionB 8 23 (e := 5) (by kernel_rfl) rfl Tryd.underlying50 Tryd.underlying5 Tryd.underlying9 ?_
    simp -implicitDefEqProofs only [go_sem, seval, ↓reduceIte, List.take_succ_cons, List.take_zero, hsl, g2, hw1, hw2]
    intro g22
    refine ⟨_, _, _, _, [48 + (d : Int)], rfl, rfl, ?_⟩
    simp -implicitDefEqProofs only [go_sem, seval, ↓reduceIte, List.drop_succ_cons, List.drop_zero, List.map_cons, List.map_nil, hb, hlen]
    refine hK5 _ ?_
    refine AW.region (by kernel_rfl) ?_
    simp -implicitDefEqProofs only [go_sem, seval, ↓reduceIte]
    refine hL2 _ ⟨hk1, (), trivial, Weak.st (by rw [hch]; simp -implicitDefEqProofs only [go_sem, seval, ↓reduceIte]; exact congrArg _ (by rw [w64 (by omega) (by omega)]; omega)) (by simp -implicitDefEqProofs only [go_sem, seval, ↓reduceIte]; try rfl)⟩
  · have hk1 : k = l.length := by have := of_decide_eq_false h4; omega
    subst hk1
    refine AW.exit ?_
    simp -implicitDefEqProofs only [go_sem, seval, ↓reduceIte]
    refine hK1 _ ?_
    rw [List.take_length]
    have hz : (chars l == []) = decide (n = 0) := by
      by_cases h : n = 0
      · rw [hn0.2 h]; simp [h, chars]
      · have : ¬ l = [] := fun e => h (hn0.1 e)
        simp [h, chars_nil, this]
    refine AW.seq_k fun K6 hK6 => ?_
    refine AW.seq_k fun K hK => AW.region (by kernel_rfl) ?_
    simp -implicitDefEqProofs only [go_sem, seval, ↓reduceIte, hz]
    refine hK _ ?_
    clear hK K
    refine AW.condS (by simp -implicitDefEqProofs only [go_sem, seval, ↓reduceIte]; rfl) (fun h7 => ?_) (fun h7 => ?_)
    · have h7 := of_decide_eq_true h7
      refine AW.seq_k fun K hK => AW.region (by kernel_rfl) ?_
      simp -implicitDefEqProofs only [go_sem, seval, ↓reduceIte]
      refine hK _ ?_
      clear hK K
      refine AW.ret ?_
      simp -implicitDefEqProofs only [go_sem, seval, ↓reduceIte]
      refine endK_some ?_
      rw [if_pos h7]
    · have h7 := of_decide_eq_false h7
      refine AW.skip ?_
      simp -implicitDefEqProofs only [go_sem, seval, ↓reduceIte]
      refine hK6 _ ?_
      refine AW.seq_k fun K8 hK8 => ?_
      refine AW.seq_k fun K hK => AW.region (by kernel_rfl) ?_
      simp -implicitDefEqProofs only [go_sem, seval, ↓reduceIte]
      refine hK _ ?_
      clear hK K
      refine AW.condS (by simp -implicitDefEqProofs only [go_sem, seval, ↓reduceIte]; rfl) (fun h8 => ?_) (fun h8 => ?_)
      · have h8 := of_decide_eq_true h8
        have hlen : ¬ (((1 + (chars l).length : Nat) : Int) > IntKind.i64.max) := by
          rw [show IntKind.i64.max = 9223372036854775807 from rfl, chars_len]; omega
        refine AW.seq_k fun K hK => AW.region (by kernel_rfl) ?_
        simp -implicitDefEqProofs only [go_sem, seval, ↓reduceIte, hlen]
        refine hK _ ?_
        clear hK K
        refine AW.ret ?_
        simp -implicitDefEqProofs only [go_sem, seval, ↓reduceIte]
        refine endK_some ?_
        rw [if_neg h7, if_pos h8]
      · have h8 := of_decide_eq_false h8
        refine AW.skip ?_
        simp -implicitDefEqProofs only [go_sem, seval, ↓reduceIte]
        refine hK8 _ ?_
        refine AW.seq_k fun K hK => AW.region (by kernel_rfl) ?_
        simp -implicitDefEqProofs only [go_sem, seval, ↓reduceIte]
        refine hK _ ?_
        clear hK K
        refine AW.ret ?_
        simp -implicitDefEqProofs only [go_sem, seval, ↓reduceIte]
        refine endK_some ?_
        rw [if_neg h7, if_neg h8]
end Go.Hs
end

section
namespace Go.Hs
open Go.Proofs
set_option maxRecDepth 10000
instance (k : IntKind) (n : Int) : Decidable (InK k n) := inferInstanceAs (Decidable (_ ∧ _))
/- hopscotchlaw06.works -/
theorem works_spec (G : Nat → V) (hN : GNum G) : Spec Tryd.prog G 8 [] hNone (fun v _ => v = .bool true) := by
  have hG := hN.ok
  refine Spec.of_code' 0 110 [.tmp 0] Tryd.func8 rfl rfl rfl rfl fun X => ?_
  refine AW.seq_k fun K hK => AW.region (by kernel_rfl) ?_
  simp -implicitDefEqProofs only [go_sem, seval, ↓reduceIte]
  refine hK _ ?_
  clear hK K
  refine AW.seq_k fun K hK => AW.region (by kernel_rfl) ?_
  simp -implicitDefEqProofs only [go_sem, seval, ↓reduceIte]
  refine hK _ ?_
  clear hK K
  refine AW.seq_k fun K hK => AW.region (by kernel_rfl) ?_
  simp -implicitDefEqProofs only [go_sem, seval, ↓reduceIte]
  refine CallA.pure hG (by kernel_rfl) ?_
  simp -implicitDefEqProofs only [go_sem, seval, ↓reduceIte]
  refine (nDiv_spec G hG (-7) 2 (by decide) (by decide)).mono ?_
  rintro _ _ rfl
  rw [show divR (-7) 2 = (-3, 0) by rfl]
  simp -implicitDefEqProofs only [go_sem, seval, ↓reduceIte, encR]
  refine hK _ ?_
  clear hK K
  refine AW.seq_k fun K hK => AW.region (by kernel_rfl) ?_
  simp -implicitDefEqProofs only [go_sem, seval, ↓reduceIte]
  refine CallA.pure hG (by kernel_rfl) ?_
  simp -implicitDefEqProofs only [go_sem, seval, ↓reduceIte]
  refine (nMod_spec G hG (-7) 2 (by decide) (by decide)).mono ?_
  rintro _ _ rfl
  rw [show modR (-7) 2 = (-1, 0) by rfl]
  simp -implicitDefEqProofs only [go_sem, seval, ↓reduceIte, encR]
  refine hK _ ?_
  clear hK K
  refine AW.seq_k fun K hK => AW.region (by kernel_rfl) ?_
  simp -implicitDefEqProofs only [go_sem, seval, ↓reduceIte]
  refine CallA.pure hG (by kernel_rfl) ?_
  simp -implicitDefEqProofs only [go_sem, seval, ↓reduceIte]
  refine (nMod_spec G hG 7 (-2) (by decide) (by decide)).mono ?_
  rintro _ _ rfl
  rw [show modR 7 (-2) = (1, 0) by rfl]
  simp -implicitDefEqProofs only [go_sem, seval, ↓reduceIte, encR]
  refine hK _ ?_
  clear hK K
  refine AW.seq_k fun K hK => AW.region (by kernel_rfl) ?_
  simp -implicitDefEqProofs only [go_sem, seval, ↓reduceIte]
  refine CallA.pure hG (by kernel_rfl) ?_
  simp -implicitDefEqProofs only [go_sem, seval, ↓reduceIte]
  refine (nDiv_spec G hG (-9223372036854775808) (-1) (by decide) (by decide)).mono ?_
  rintro _ _ rfl
  rw [show divR (-9223372036854775808) (-1) = (0, 60) by rfl]
  simp -implicitDefEqProofs only [go_sem, seval, ↓reduceIte, encR]
  refine hK _ ?_
  clear hK K
  refine AW.seq_k fun K hK => AW.region (by kernel_rfl) ?_
  simp -implicitDefEqProofs only [go_sem, seval, ↓reduceIte]
  refine CallA.pure hG (by kernel_rfl) ?_
  simp -implicitDefEqProofs only [go_sem, seval, ↓reduceIte]
  refine (nMod_spec G hG (-9223372036854775808) (-1) (by decide) (by decide)).mono ?_
  rintro _ _ rfl
  rw [show modR (-9223372036854775808) (-1) = (0, 0) by rfl]
  simp -implicitDefEqProofs only [go_sem, seval, ↓reduceIte, encR]
  refine hK _ ?_
  clear hK K
  refine AW.seq_k fun K hK => AW.region (by kernel_rfl) ?_
  simp -implicitDefEqProofs only [go_sem, seval, ↓reduceIte]
  refine CallA.pure hG (by kernel_rfl) ?_
  simp -implicitDefEqProofs only [go_sem, seval, ↓reduceIte]
  refine (nNeg_spec G hG (-9223372036854775808) (by decide)).mono ?_
  rintro _ _ rfl
  rw [show told (- (-9223372036854775808)) = (0, 60) by rfl]
  simp -implicitDefEqProofs only [go_sem, seval, ↓reduceIte, encR]
  refine hK _ ?_
  clear hK K
  refine AW.seq_k fun K hK => AW.region (by kernel_rfl) ?_
  simp -implicitDefEqProofs only [go_sem, seval, ↓reduceIte]
  refine CallA.pure hG (by kernel_rfl) ?_
  simp -implicitDefEqProofs only [go_sem, seval, ↓reduceIte]
  refine (nParse_spec G hN [45, 48] (by decide)).mono ?_
  rintro _ _ rfl
  rw [show parseR [45, 48] = (0, 2) by rfl]
  simp -implicitDefEqProofs only [go_sem, seval, ↓reduceIte, encR]
  refine hK _ ?_
  clear hK K
  refine AW.seq_k fun K hK => AW.region (by kernel_rfl) ?_
  simp -implicitDefEqProofs only [go_sem, seval, ↓reduceIte]
  refine CallA.pure hG (by kernel_rfl) ?_
  simp -implicitDefEqProofs only [go_sem, seval, ↓reduceIte]
  refine (nParse_spec G hN [48, 48, 55] (by decide)).mono ?_
  rintro _ _ rfl
  rw [show parseR [48, 48, 55] = (0, 2) by rfl]
  simp -implicitDefEqProofs only [go_sem, seval, ↓reduceIte, encR]
  refine hK _ ?_
  clear hK K
  refine AW.seq_k fun K hK => AW.region (by kernel_rfl) ?_
  simp -implicitDefEqProofs only [go_sem, seval, ↓reduceIte]
  refine CallA.pure hG (by kernel_rfl) ?_
  simp -implicitDefEqProofs only [go_sem, seval, ↓reduceIte]
  refine (nParse_spec G hN [57, 50, 50, 51, 51, 55, 50, 48, 51, 54, 56, 53, 52, 55, 55, 53, 56, 48, 56] (by decide)).mono ?_
  rintro _ _ rfl
  rw [show parseR [57, 50, 50, 51, 51, 55, 50, 48, 51, 54, 56, 53, 52, 55, 55, 53, 56, 48, 56] = (0, 60) by rfl]
  simp -implicitDefEqProofs only [go_sem, seval, ↓reduceIte, encR]
  refine hK _ ?_
  clear hK K
  refine AW.seq_k fun K hK => AW.region (by kernel_rfl) ?_
  simp -implicitDefEqProofs only [go_sem, seval, ↓reduceIte]
  intro g64
  refine CallA.frzL (fun o => o == 64) [encSl .new 1 (V.int .i64) (.mk false [9223372036854775807, 1, -1])] [] ⟨Fz.sl (f := V.int .i64) (l := [9223372036854775807, 1, -1]) (g := g64) (fz := 0) (c := .new) rfl (by simp -implicitDefEqProofs only [go_sem, seval, ↓reduceIte]; try rfl) (fun _ => rfl), trivial⟩ trivial ?_
  refine CallA.pure hG (by kernel_rfl) ?_
  simp -implicitDefEqProofs only [go_sem, seval, ↓reduceIte]
  refine (nSumN_spec G hG _ (.mk false [9223372036854775807, 1, -1]) (by decide) (by decide)).mono ?_
  rintro _ _ rfl
  rw [show sumR 0 (Sl.mk false [9223372036854775807, 1, -1]).l = (0, 60) by rfl]
  simp -implicitDefEqProofs only [go_sem, seval, ↓reduceIte, encR]
  refine hK _ ?_
  clear hK K
  refine AW.seq_k fun K hK => AW.region (by kernel_rfl) ?_
  simp -implicitDefEqProofs only [go_sem, seval, ↓reduceIte]
  refine hK _ ?_
  clear hK K
  refine AW.ret ?_
  simp -implicitDefEqProofs only [go_sem, seval, ↓reduceIte]
  refine endK_some ?_
  rfl
end Go.Hs
end

section
namespace Go.Hs
open Go.Proofs
set_option maxRecDepth 10000
/- NumReckons -/
theorem lawReckons_spec (G : Nat → V) (hN : GNum G) (a b : Int) (ha : InK .i64 a) (hb : InK .i64 b) : Spec Tryd.prog G 5 [.int .i64 a, .int .i64 b] hNone (fun v _ => v = .bool true) := by
  have hG := hN.ok
  refine Spec.of_code' 0 104 [.tmp 4] Tryd.func5 rfl rfl rfl rfl fun X => ?_
  refine AW.seq_k fun K hK => AW.region (by kernel_rfl) ?_
  simp -implicitDefEqProofs only [go_sem, seval, ↓reduceIte]
  refine hK _ ?_
  clear hK K
  refine AW.seq_k fun K1 hK1 => ?_
  refine AW.seq_k fun K hK => AW.region (by kernel_rfl) ?_
  simp -implicitDefEqProofs only [go_sem, seval, ↓reduceIte]
  refine hK _ ?_
  clear hK K
  refine AW.block ?_
  refine AW.for 6 (fun k (_ : Unit) => st [(0, .int .i64 a), (1, .int .i64 b), (5, .int .i64 k)] []) (fun k _ => True) 0 () (Nat.zero_le _) trivial
    (Weak.st (by simp -implicitDefEqProofs only [go_sem, seval, ↓reduceIte]; try rfl) (by simp -implicitDefEqProofs only [go_sem, seval, ↓reduceIte]; try rfl)) ?_
  intro k _ hk _ L2 hL2
  refine AW.seq_k fun K3 hK3 => ?_
  refine AW.seq_k fun K hK => AW.region (by kernel_rfl) ?_
  simp -implicitDefEqProofs only [go_sem, seval, ↓reduceIte]
  refine hK _ ?_
  clear hK K
  refine AW.condS (by simp -implicitDefEqProofs only [go_sem, seval, ↓reduceIte]; rfl) (fun h4 => ?_) (fun h4 => ?_)
  · have hk1 : k < 6 := by have := of_decide_eq_true h4; omega
    refine AW.skip ?_
    simp -implicitDefEqProofs only [go_sem, seval, ↓reduceIte]
    refine hK3 _ ?_
    refine AW.seq_k fun K5 hK5 => ?_
    refine AW.block ?_
    refine AW.seq_k fun K hK => AW.region (by kernel_rfl) ?_
    simp -implicitDefEqProofs only [go_sem, seval, ↓reduceIte]
    refine hK _ ?_
    clear hK K
    refine AW.seq_k fun K hK => AW.region (by kernel_rfl) ?_
    simp -implicitDefEqProofs only [go_sem, seval, ↓reduceIte]
    refine hK _ ?_
    clear hK K
    refine AW.seqJ (fun (p : Int × Int) => st [(0, .int .i64 a), (1, .int .i64 b), (5, .int .i64 k), (6, .int .i64 p.1), (7, .int .i64 p.1), (8, .int .i64 p.2), (9, .int .i64 p.2)] []) (fun _ => True) (fun K4 hK4 => ?_) ?_
    · clear hK5 hK3 hL2 h4
      refine AW.seq_k fun K hK => AW.region (by kernel_rfl) ?_
      simp -implicitDefEqProofs only [go_sem, seval, ↓reduceIte]
      refine hK _ ?_
      clear hK K
      refine AW.block ?_
      match k, hk1 with
      | 0, _ =>
        refine AW.seq_k fun K hK => AW.region (by kernel_rfl) ?_
        simp -implicitDefEqProofs only [go_sem, seval, ↓reduceIte]
        refine hK _ ?_
        clear hK K
        refine AW.condS (by simp -implicitDefEqProofs only [go_sem, seval, ↓reduceIte]; rfl) (fun h => ?_) (fun h => ?_)
        · refine AW.seq_k fun K hK => AW.region (by kernel_rfl) ?_
          simp -implicitDefEqProofs only [go_sem, seval, ↓reduceIte]
          refine CallA.pure hG (by kernel_rfl) ?_
          simp -implicitDefEqProofs only [go_sem, seval, ↓reduceIte]
          refine (nAdd_spec G hG a b ha hb).mono ?_
          rintro _ _ rfl
          simp -implicitDefEqProofs only [go_sem, seval, ↓reduceIte, encR]
          refine hK _ ?_
          clear hK K
          refine AW.region (by kernel_rfl) ?_
          simp -implicitDefEqProofs only [go_sem, seval, ↓reduceIte]
          refine CallA.pure hG (by kernel_rfl) ?_
          simp -implicitDefEqProofs only [go_sem, seval, ↓reduceIte]
          refine (rAddN_spec G hG a b ha hb).mono ?_
          rintro _ _ rfl
          simp -implicitDefEqProofs only [go_sem, seval, ↓reduceIte, encR]
          exact hK4 _ (told (a + b)) trivial (Weak.st (by simp -implicitDefEqProofs only [go_sem, seval, ↓reduceIte]) (by simp -implicitDefEqProofs only [go_sem, seval, ↓reduceIte]))
        · cases h
      | 1, _ =>
        refine AW.seq_k fun K hK => AW.region (by kernel_rfl) ?_
        simp -implicitDefEqProofs only [go_sem, seval, ↓reduceIte]
        refine hK _ ?_
        clear hK K
        refine AW.condS (by simp -implicitDefEqProofs only [go_sem, seval, ↓reduceIte]; rfl) (fun h => ?_) (fun h => ?_)
        · cases h
        · refine AW.seq_k fun K hK => AW.region (by kernel_rfl) ?_
          simp -implicitDefEqProofs only [go_sem, seval, ↓reduceIte]
          refine hK _ ?_
          clear hK K
          refine AW.condS (by simp -implicitDefEqProofs only [go_sem, seval, ↓reduceIte]; rfl) (fun h => ?_) (fun h => ?_)
          · refine AW.seq_k fun K hK => AW.region (by kernel_rfl) ?_
            simp -implicitDefEqProofs only [go_sem, seval, ↓reduceIte]
            refine CallA.pure hG (by kernel_rfl) ?_
            simp -implicitDefEqProofs only [go_sem, seval, ↓reduceIte]
            refine (nSub_spec G hG a b ha hb).mono ?_
            rintro _ _ rfl
            simp -implicitDefEqProofs only [go_sem, seval, ↓reduceIte, encR]
            refine hK _ ?_
            clear hK K
            refine AW.region (by kernel_rfl) ?_
            simp -implicitDefEqProofs only [go_sem, seval, ↓reduceIte]
            refine CallA.pure hG (by kernel_rfl) ?_
            simp -implicitDefEqProofs only [go_sem, seval, ↓reduceIte]
            refine (rSubN_spec G hG a b ha hb).mono ?_
            rintro _ _ rfl
            simp -implicitDefEqProofs only [go_sem, seval, ↓reduceIte, encR]
            exact hK4 _ (told (a - b)) trivial (Weak.st (by simp -implicitDefEqProofs only [go_sem, seval, ↓reduceIte]) (by simp -implicitDefEqProofs only [go_sem, seval, ↓reduceIte]))
          · cases h
      | 2, _ =>
        refine AW.seq_k fun K hK => AW.region (by kernel_rfl) ?_
        simp -implicitDefEqProofs only [go_sem, seval, ↓reduceIte]
        refine hK _ ?_
        clear hK K
        refine AW.condS (by simp -implicitDefEqProofs only [go_sem, seval, ↓reduceIte]; rfl) (fun h => ?_) (fun h => ?_)
        · cases h
        · refine AW.seq_k fun K hK => AW.region (by kernel_rfl) ?_
          simp -implicitDefEqProofs only [go_sem, seval, ↓reduceIte]
          refine hK _ ?_
          clear hK K
          refine AW.condS (by simp -implicitDefEqProofs only [go_sem, seval, ↓reduceIte]; rfl) (fun h => ?_) (fun h => ?_)
          · cases h
          · refine AW.seq_k fun K hK => AW.region (by kernel_rfl) ?_
            simp -implicitDefEqProofs only [go_sem, seval, ↓reduceIte]
            refine hK _ ?_
            clear hK K
            refine AW.condS (by simp -implicitDefEqProofs only [go_sem, seval, ↓reduceIte]; rfl) (fun h => ?_) (fun h => ?_)
            · refine AW.seq_k fun K hK => AW.region (by kernel_rfl) ?_
              simp -implicitDefEqProofs only [go_sem, seval, ↓reduceIte]
              refine CallA.pure hG (by kernel_rfl) ?_
              simp -implicitDefEqProofs only [go_sem, seval, ↓reduceIte]
              refine (nMul_spec G hG a b ha hb).mono ?_
              rintro _ _ rfl
              simp -implicitDefEqProofs only [go_sem, seval, ↓reduceIte, encR]
              refine hK _ ?_
              clear hK K
              refine AW.region (by kernel_rfl) ?_
              simp -implicitDefEqProofs only [go_sem, seval, ↓reduceIte]
              refine CallA.pure hG (by kernel_rfl) ?_
              simp -implicitDefEqProofs only [go_sem, seval, ↓reduceIte]
              refine (rMulN_spec G hG a b ha hb).mono ?_
              rintro _ _ rfl
              simp -implicitDefEqProofs only [go_sem, seval, ↓reduceIte, encR]
              exact hK4 _ (told (a * b)) trivial (Weak.st (by simp -implicitDefEqProofs only [go_sem, seval, ↓reduceIte]) (by simp -implicitDefEqProofs only [go_sem, seval, ↓reduceIte]))
            · cases h
      | 3, _ =>
        refine AW.seq_k fun K hK => AW.region (by kernel_rfl) ?_
        simp -implicitDefEqProofs only [go_sem, seval, ↓reduceIte]
        refine hK _ ?_
        clear hK K
        refine AW.condS (by simp -implicitDefEqProofs only [go_sem, seval, ↓reduceIte]; rfl) (fun h => ?_) (fun h => ?_)
        · cases h
        · refine AW.seq_k fun K hK => AW.region (by kernel_rfl) ?_
          simp -implicitDefEqProofs only [go_sem, seval, ↓reduceIte]
          refine hK _ ?_
          clear hK K
          refine AW.condS (by simp -implicitDefEqProofs only [go_sem, seval, ↓reduceIte]; rfl) (fun h => ?_) (fun h => ?_)
          · cases h
          · refine AW.seq_k fun K hK => AW.region (by kernel_rfl) ?_
            simp -implicitDefEqProofs only [go_sem, seval, ↓reduceIte]
            refine hK _ ?_
            clear hK K
            refine AW.condS (by simp -implicitDefEqProofs only [go_sem, seval, ↓reduceIte]; rfl) (fun h => ?_) (fun h => ?_)
            · cases h
            · refine AW.seq_k fun K hK => AW.region (by kernel_rfl) ?_
              simp -implicitDefEqProofs only [go_sem, seval, ↓reduceIte]
              refine hK _ ?_
              clear hK K
              refine AW.condS (by simp -implicitDefEqProofs only [go_sem, seval, ↓reduceIte]; rfl) (fun h => ?_) (fun h => ?_)
              · refine AW.seq_k fun K hK => AW.region (by kernel_rfl) ?_
                simp -implicitDefEqProofs only [go_sem, seval, ↓reduceIte]
                refine CallA.pure hG (by kernel_rfl) ?_
                simp -implicitDefEqProofs only [go_sem, seval, ↓reduceIte]
                refine (nDiv_spec G hG a b ha hb).mono ?_
                rintro _ _ rfl
                simp -implicitDefEqProofs only [go_sem, seval, ↓reduceIte, encR]
                refine hK _ ?_
                clear hK K
                refine AW.region (by kernel_rfl) ?_
                simp -implicitDefEqProofs only [go_sem, seval, ↓reduceIte]
                refine CallA.pure hG (by kernel_rfl) ?_
                simp -implicitDefEqProofs only [go_sem, seval, ↓reduceIte]
                refine (rDivN_spec G hG a b ha hb).mono ?_
                rintro _ _ rfl
                simp -implicitDefEqProofs only [go_sem, seval, ↓reduceIte, encR]
                exact hK4 _ (divR a b) trivial (Weak.st (by simp -implicitDefEqProofs only [go_sem, seval, ↓reduceIte]) (by simp -implicitDefEqProofs only [go_sem, seval, ↓reduceIte]))
              · cases h
      | 4, _ =>
        refine AW.seq_k fun K hK => AW.region (by kernel_rfl) ?_
        simp -implicitDefEqProofs only [go_sem, seval, ↓reduceIte]
        refine hK _ ?_
        clear hK K
        refine AW.condS (by simp -implicitDefEqProofs only [go_sem, seval, ↓reduceIte]; rfl) (fun h => ?_) (fun h => ?_)
        · cases h
        · refine AW.seq_k fun K hK => AW.region (by kernel_rfl) ?_
          simp -implicitDefEqProofs only [go_sem, seval, ↓reduceIte]
          refine hK _ ?_
          clear hK K
          refine AW.condS (by simp -implicitDefEqProofs only [go_sem, seval, ↓reduceIte]; rfl) (fun h => ?_) (fun h => ?_)
          · cases h
          · refine AW.seq_k fun K hK => AW.region (by kernel_rfl) ?_
            simp -implicitDefEqProofs only [go_sem, seval, ↓reduceIte]
            refine hK _ ?_
            clear hK K
            refine AW.condS (by simp -implicitDefEqProofs only [go_sem, seval, ↓reduceIte]; rfl) (fun h => ?_) (fun h => ?_)
            · cases h
            · refine AW.seq_k fun K hK => AW.region (by kernel_rfl) ?_
              simp -implicitDefEqProofs only [go_sem, seval, ↓reduceIte]
              refine hK _ ?_
              clear hK K
              refine AW.condS (by simp -implicitDefEqProofs only [go_sem, seval, ↓reduceIte]; rfl) (fun h => ?_) (fun h => ?_)
              · cases h
              · refine AW.seq_k fun K hK => AW.region (by kernel_rfl) ?_
                simp -implicitDefEqProofs only [go_sem, seval, ↓reduceIte]
                refine hK _ ?_
                clear hK K
                refine AW.condS (by simp -implicitDefEqProofs only [go_sem, seval, ↓reduceIte]; rfl) (fun h => ?_) (fun h => ?_)
                · refine AW.seq_k fun K hK => AW.region (by kernel_rfl) ?_
                  simp -implicitDefEqProofs only [go_sem, seval, ↓reduceIte]
                  refine CallA.pure hG (by kernel_rfl) ?_
                  simp -implicitDefEqProofs only [go_sem, seval, ↓reduceIte]
                  refine (nMod_spec G hG a b ha hb).mono ?_
                  rintro _ _ rfl
                  simp -implicitDefEqProofs only [go_sem, seval, ↓reduceIte, encR]
                  refine hK _ ?_
                  clear hK K
                  refine AW.region (by kernel_rfl) ?_
                  simp -implicitDefEqProofs only [go_sem, seval, ↓reduceIte]
                  refine CallA.pure hG (by kernel_rfl) ?_
                  simp -implicitDefEqProofs only [go_sem, seval, ↓reduceIte]
                  refine (rModN_spec G hG a b ha hb).mono ?_
                  rintro _ _ rfl
                  simp -implicitDefEqProofs only [go_sem, seval, ↓reduceIte, encR]
                  exact hK4 _ (modR a b) trivial (Weak.st (by simp -implicitDefEqProofs only [go_sem, seval, ↓reduceIte]) (by simp -implicitDefEqProofs only [go_sem, seval, ↓reduceIte]))
                · cases h
      | 5, _ =>
        refine AW.seq_k fun K hK => AW.region (by kernel_rfl) ?_
        simp -implicitDefEqProofs only [go_sem, seval, ↓reduceIte]
        refine hK _ ?_
        clear hK K
        refine AW.condS (by simp -implicitDefEqProofs only [go_sem, seval, ↓reduceIte]; rfl) (fun h => ?_) (fun h => ?_)
        · cases h
        · refine AW.seq_k fun K hK => AW.region (by kernel_rfl) ?_
          simp -implicitDefEqProofs only [go_sem, seval, ↓reduceIte]
          refine hK _ ?_
          clear hK K
          refine AW.condS (by simp -implicitDefEqProofs only [go_sem, seval, ↓reduceIte]; rfl) (fun h => ?_) (fun h => ?_)
          · cases h
          · refine AW.seq_k fun K hK => AW.region (by kernel_rfl) ?_
            simp -implicitDefEqProofs only [go_sem, seval, ↓reduceIte]
            refine hK _ ?_
            clear hK K
            refine AW.condS (by simp -implicitDefEqProofs only [go_sem, seval, ↓reduceIte]; rfl) (fun h => ?_) (fun h => ?_)
            · cases h
            · refine AW.seq_k fun K hK => AW.region (by kernel_rfl) ?_
              simp -implicitDefEqProofs only [go_sem, seval, ↓reduceIte]
              refine hK _ ?_
              clear hK K
              refine AW.condS (by simp -implicitDefEqProofs only [go_sem, seval, ↓reduceIte]; rfl) (fun h => ?_) (fun h => ?_)
              · cases h
              · refine AW.seq_k fun K hK => AW.region (by kernel_rfl) ?_
                simp -implicitDefEqProofs only [go_sem, seval, ↓reduceIte]
                refine hK _ ?_
                clear hK K
                refine AW.condS (by simp -implicitDefEqProofs only [go_sem, seval, ↓reduceIte]; rfl) (fun h => ?_) (fun h => ?_)
                · cases h
                · refine AW.seq_k fun K hK => AW.region (by kernel_rfl) ?_
                  simp -implicitDefEqProofs only [go_sem, seval, ↓reduceIte]
                  refine CallA.pure hG (by kernel_rfl) ?_
                  simp -implicitDefEqProofs only [go_sem, seval, ↓reduceIte]
                  refine (nNeg_spec G hG a ha).mono ?_
                  rintro _ _ rfl
                  simp -implicitDefEqProofs only [go_sem, seval, ↓reduceIte, encR]
                  refine hK _ ?_
                  clear hK K
                  refine AW.region (by kernel_rfl) ?_
                  simp -implicitDefEqProofs only [go_sem, seval, ↓reduceIte]
                  refine CallA.pure hG (by kernel_rfl) ?_
                  simp -implicitDefEqProofs only [go_sem, seval, ↓reduceIte]
                  refine (rNegN_spec G hG a ha).mono ?_
                  rintro _ _ rfl
                  simp -implicitDefEqProofs only [go_sem, seval, ↓reduceIte, encR]
                  exact hK4 _ (told (-a)) trivial (Weak.st (by simp -implicitDefEqProofs only [go_sem, seval, ↓reduceIte]) (by simp -implicitDefEqProofs only [go_sem, seval, ↓reduceIte]))
    · intro p _
      refine AW.seq_k fun K hK => AW.region (by kernel_rfl) ?_
      simp -implicitDefEqProofs only [go_sem, seval, ↓reduceIte, bne_self_eq_false]
      refine hK _ ?_
      clear hK K
      refine AW.condS (by simp -implicitDefEqProofs only [go_sem, seval, ↓reduceIte]; rfl) (fun h7 => ?_) (fun h7 => ?_)
      · cases h7
      · refine AW.skip ?_
        simp -implicitDefEqProofs only [go_sem, seval, ↓reduceIte]
        refine hK5 _ ?_
        refine AW.region (by kernel_rfl) ?_
        simp -implicitDefEqProofs only [go_sem, seval, ↓reduceIte]
        refine hL2 _ ⟨hk1, (), trivial, Weak.st (by simp -implicitDefEqProofs only [go_sem, seval, ↓reduceIte]; exact congrArg _ (by rw [w64 (by omega) (by omega)]; omega)) (by simp -implicitDefEqProofs only [go_sem, seval, ↓reduceIte])⟩
  · refine AW.exit ?_
    simp -implicitDefEqProofs only [go_sem, seval, ↓reduceIte]
    refine hK1 _ ?_
    refine AW.seq_k fun K hK => AW.region (by kernel_rfl) ?_
    simp -implicitDefEqProofs only [go_sem, seval, ↓reduceIte]
    refine CallA.pure hG (by kernel_rfl) ?_
    simp -implicitDefEqProofs only [go_sem, seval, ↓reduceIte]
    refine (works_spec G hN).mono ?_
    rintro _ _ rfl
    simp -implicitDefEqProofs only [go_sem, seval, ↓reduceIte]
    refine hK _ ?_
    clear hK K
    refine AW.ret ?_
    simp -implicitDefEqProofs only [go_sem, seval, ↓reduceIte]
    refine endK_some ?_
    rfl
/- NumTexts -/
theorem lawTexts_spec (G : Nat → V) (hN : GNum G) (s : List UInt8) (n : Int) (hn : InK .i64 n) : Spec Tryd.prog G 4 [.str s, .int .i64 n] hNone (fun v _ => v = .bool true) := by
  have hG := hN.ok
  refine Spec.of_code' 0 41 [.tmp 4] Tryd.func4 rfl rfl rfl rfl fun X => ?_
  refine AW.seq_k fun K hK => AW.region (by kernel_rfl) ?_
  simp -implicitDefEqProofs only [go_sem, seval, ↓reduceIte]
  refine hK _ ?_
  clear hK K
  refine AW.seq_k fun K1 hK1 => ?_
  refine AW.seq_k fun K hK => AW.region (by kernel_rfl) ?_
  simp -implicitDefEqProofs only [go_sem, seval, ↓reduceIte]
  refine hK _ ?_
  clear hK K
  refine AW.condS (by simp -implicitDefEqProofs only [go_sem, seval, ↓reduceIte]; rfl) (fun h2 => ?_) (fun h2 => ?_)
  · refine AW.seq_k fun K hK => AW.region (by kernel_rfl) ?_
    simp -implicitDefEqProofs only [go_sem, seval, ↓reduceIte]
    refine CallA.pure hG (by kernel_rfl) ?_
    simp -implicitDefEqProofs only [go_sem, seval, ↓reduceIte]
    refine (works_spec G hN).mono ?_
    rintro _ _ rfl
    simp -implicitDefEqProofs only [go_sem, seval, ↓reduceIte]
    refine hK _ ?_
    clear hK K
    refine AW.ret ?_
    simp -implicitDefEqProofs only [go_sem, seval, ↓reduceIte]
    refine endK_some ?_
    rfl
  · have hs : s.length < 1000000 := by have := of_decide_eq_false h2; omega
    refine AW.skip ?_
    simp -implicitDefEqProofs only [go_sem, seval, ↓reduceIte]
    refine hK1 _ ?_
    refine AW.seq_k fun K hK => AW.region (by kernel_rfl) ?_
    simp -implicitDefEqProofs only [go_sem, seval, ↓reduceIte]
    refine CallA.pure hG (by kernel_rfl) ?_
    simp -implicitDefEqProofs only [go_sem, seval, ↓reduceIte]
    refine (nParse_spec G hN s hs).mono ?_
    rintro _ _ rfl
    simp -implicitDefEqProofs only [go_sem, seval, ↓reduceIte, encR]
    refine hK _ ?_
    clear hK K
    refine AW.seq_k fun K hK => AW.region (by kernel_rfl) ?_
    simp -implicitDefEqProofs only [go_sem, seval, ↓reduceIte]
    refine CallA.pure hG (by kernel_rfl) ?_
    simp -implicitDefEqProofs only [go_sem, seval, ↓reduceIte]
    refine (rParse_spec G hG s hs).mono ?_
    rintro _ _ rfl
    simp -implicitDefEqProofs only [go_sem, seval, ↓reduceIte, encR]
    refine hK _ ?_
    clear hK K
    refine AW.seq_k fun K hK => AW.region (by kernel_rfl) ?_
    simp -implicitDefEqProofs only [go_sem, seval, ↓reduceIte, beq_self_eq_true]
    refine CallA.pure hG (by kernel_rfl) ?_
    simp -implicitDefEqProofs only [go_sem, seval, ↓reduceIte]
    refine (nPut_spec G hN n hn).mono ?_
    rintro _ _ rfl
    simp -implicitDefEqProofs only [go_sem, seval, ↓reduceIte]
    refine CallA.pure hG (by kernel_rfl) ?_
    simp -implicitDefEqProofs only [go_sem, seval, ↓reduceIte]
    refine (rPut_spec G hG n hn).mono ?_
    rintro _ _ rfl
    simp -implicitDefEqProofs only [go_sem, seval, ↓reduceIte, beq_self_eq_true]
    refine CallA.pure hG (by kernel_rfl) ?_
    simp -implicitDefEqProofs only [go_sem, seval, ↓reduceIte]
    refine (works_spec G hN).mono ?_
    rintro _ _ rfl
    simp -implicitDefEqProofs only [go_sem, seval, ↓reduceIte]
    refine hK _ ?_
    clear hK K
    refine AW.ret ?_
    simp -implicitDefEqProofs only [go_sem, seval, ↓reduceIte]
    refine endK_some ?_
    rfl
/- NumSums -/
theorem lawSums_spec (G : Nat → V) (hN : GNum G) (c : Col) (s : Sl Int) (hx : ∀ x ∈ s.l, InK .i64 x) : Spec Tryd.prog G 3 [encSl c 1 (V.int .i64) s] hNone (fun v _ => v = .bool true) := by
  have hG := hN.ok
  refine Spec.of_code' 0 52 [.tmp 2] Tryd.func3 rfl rfl rfl rfl fun X => ?_
  refine AW.seq_k fun K hK => AW.region (by kernel_rfl) ?_
  simp -implicitDefEqProofs only [go_sem, seval, ↓reduceIte]
  refine hK _ ?_
  clear hK K
  refine AW.seq_k fun K1 hK1 => ?_
  refine AW.seq_k fun K hK => AW.region (by kernel_rfl) ?_
  simp -implicitDefEqProofs only [go_sem, seval, ↓reduceIte]
  refine hK _ ?_
  clear hK K
  refine AW.condS (by simp -implicitDefEqProofs only [go_sem, seval, ↓reduceIte]; rfl) (fun h2 => ?_) (fun h2 => ?_)
  · refine AW.seq_k fun K hK => AW.region (by kernel_rfl) ?_
    simp -implicitDefEqProofs only [go_sem, seval, ↓reduceIte]
    refine CallA.pure hG (by kernel_rfl) ?_
    simp -implicitDefEqProofs only [go_sem, seval, ↓reduceIte]
    refine (works_spec G hN).mono ?_
    rintro _ _ rfl
    simp -implicitDefEqProofs only [go_sem, seval, ↓reduceIte]
    refine hK _ ?_
    clear hK K
    refine AW.ret ?_
    simp -implicitDefEqProofs only [go_sem, seval, ↓reduceIte]
    refine endK_some ?_
    rfl
  · have hs : s.l.length < 1000000 := by have := of_decide_eq_false h2; omega
    refine AW.skip ?_
    simp -implicitDefEqProofs only [go_sem, seval, ↓reduceIte]
    refine hK1 _ ?_
    refine AW.seq_k fun K hK => AW.region (by kernel_rfl) ?_
    simp -implicitDefEqProofs only [go_sem, seval, ↓reduceIte]
    refine hK _ ?_
    clear hK K
    refine AW.seq_k fun K hK => AW.region (by kernel_rfl) ?_
    simp -implicitDefEqProofs only [go_sem, seval, ↓reduceIte]
    refine app_grown (f := V.int .i64) (l := []) (l2 := s.l) (g := 0) (fun _ => rfl) rfl rfl rfl rfl (roomOk_of (by omega) (by simp; omega)) fun g15 => ?_
    simp -implicitDefEqProofs only [go_sem, seval, ↓reduceIte, List.nil_append]
    refine hK _ ?_
    clear hK K
    refine AW.weak (Weak.stF (fun o => o == 15) (l := [(0, encSl c 1 (V.int .i64) s), (3, encSl .new 1 (V.int .i64) (grownS s.l))]) (m := []) ?_ trivial) ?_
    · simp -implicitDefEqProofs only [go_sem, seval, ↓reduceIte]
      exact ⟨Fz.same _, Fz.grown rfl rfl (fun _ => rfl)⟩
    have hxg : ∀ x ∈ (grownS s.l).l, InK .i64 x := by rw [grownS_l]; exact hx
    have hsg : (grownS s.l).l.length < 1000000 := by rw [grownS_l]; exact hs
    refine AW.seq_k fun K hK => AW.region (by kernel_rfl) ?_
    simp -implicitDefEqProofs only [go_sem, seval, ↓reduceIte]
    refine CallA.pure hG (by kernel_rfl) ?_
    simp -implicitDefEqProofs only [go_sem, seval, ↓reduceIte]
    refine (nSumN_spec G hG _ (grownS s.l) hxg hsg).mono ?_
    rintro _ _ rfl
    simp -implicitDefEqProofs only [go_sem, seval, ↓reduceIte, encR]
    refine hK _ ?_
    clear hK K
    refine AW.seq_k fun K hK => AW.region (by kernel_rfl) ?_
    simp -implicitDefEqProofs only [go_sem, seval, ↓reduceIte]
    refine CallA.pure hG (by kernel_rfl) ?_
    simp -implicitDefEqProofs only [go_sem, seval, ↓reduceIte]
    refine (rSumN_spec G hG _ s hx hs).mono ?_
    rintro _ _ rfl
    simp -implicitDefEqProofs only [go_sem, seval, ↓reduceIte, encR]
    refine hK _ ?_
    clear hK K
    obtain ⟨p1, p2⟩ := sumR 0 s.l
    refine AW.seq_k fun K2 hK2 => ?_
    refine AW.seq_k fun K hK => AW.region (by kernel_rfl) ?_
    simp -implicitDefEqProofs only [go_sem, seval, ↓reduceIte]
    refine hK _ ?_
    clear hK K
    refine AW.block ?_
    refine AW.for s.l.length (fun k (_ : Unit) => st [(0, encSl c 1 (V.int .i64) s), (3, encSl .new 1 (V.int .i64) (grownS s.l)), (4, .int .i64 p1), (5, .int .i64 p2), (6, .int .i64 p1), (7, .int .i64 p2), (8, .int .i64 k)] []) (fun k _ => True) 0 () (Nat.zero_le _) trivial
      (Weak.st (by simp -implicitDefEqProofs only [go_sem, seval, ↓reduceIte]; try rfl) (by simp -implicitDefEqProofs only [go_sem, seval, ↓reduceIte]; try rfl)) ?_
    intro k _ hk _ L2 hL2
    refine AW.seq_k fun K3 hK3 => ?_
    refine AW.seq_k fun K hK => AW.region (by kernel_rfl) ?_
    simp -implicitDefEqProofs only [go_sem, seval, ↓reduceIte]
    refine hK _ ?_
    clear hK K
    refine AW.condS (by simp -implicitDefEqProofs only [go_sem, seval, ↓reduceIte]; rfl) (fun h4 => ?_) (fun h4 => ?_)
    · have hk1 : k < s.l.length := by have := of_decide_eq_true h4; omega
      have g2 := List.getElem?_eq_getElem hk1
      generalize s.l[k] = x at g2
      refine AW.skip ?_
      simp -implicitDefEqProofs only [go_sem, seval, ↓reduceIte]
      refine hK3 _ ?_
      refine AW.seq_k fun K5 hK5 => ?_
      refine AW.block ?_
      refine AW.seq_k fun K hK => AW.regionT ⟨fun _ => .top, fun _ => .pure⟩ (by kernel_rfl) hG (by kernel_rfl) (by kernel_rfl) ?_
      simp -implicitDefEqProofs only [go_sem, seval, ↓reduceIte, g2, bne_self_eq_false]
      refine hK _ ?_
      clear hK K
      refine AW.condS (by simp -implicitDefEqProofs only [go_sem, seval, ↓reduceIte]; rfl) (fun h7 => ?_) (fun h7 => ?_)
      · cases h7
      · refine AW.skip ?_
        simp -implicitDefEqProofs only [go_sem, seval, ↓reduceIte]
        refine hK5 _ ?_
        refine AW.region (by kernel_rfl) ?_
        simp -implicitDefEqProofs only [go_sem, seval, ↓reduceIte]
        refine hL2 _ ⟨hk1, (), trivial, Weak.st (by simp -implicitDefEqProofs only [go_sem, seval, ↓reduceIte]; exact congrArg _ (by rw [w64 (by omega) (by omega)]; omega)) (by simp -implicitDefEqProofs only [go_sem, seval, ↓reduceIte])⟩
    · refine AW.exit ?_
      simp -implicitDefEqProofs only [go_sem, seval, ↓reduceIte]
      refine hK2 _ ?_
      refine AW.seq_k fun K hK => AW.region (by kernel_rfl) ?_
      simp -implicitDefEqProofs only [go_sem, seval, ↓reduceIte, beq_self_eq_true]
      refine CallA.pure hG (by kernel_rfl) ?_
      simp -implicitDefEqProofs only [go_sem, seval, ↓reduceIte]
      refine (works_spec G hN).mono ?_
      rintro _ _ rfl
      simp -implicitDefEqProofs only [go_sem, seval, ↓reduceIte]
      refine hK _ ?_
      clear hK K
      refine AW.ret ?_
      simp -implicitDefEqProofs only [go_sem, seval, ↓reduceIte]
      refine endK_some ?_
      rfl
end Go.Hs
end

section
/- What is put is parsed as it was; what is parsed is put so; quotients and rests. -/
namespace Go.Hs.PutLaw
open Go Go.Hs
def chr (d : Nat) : UInt8 := UInt8.ofNat (48 + d)
def chars (l : List Nat) : List UInt8 := (l.map chr).reverse
theorem decDigits_dg (u : Nat) (h : 0 < u) : Lib.decDigits u = chars (dg u) := by
  induction u using Nat.strongRecOn with
  | _ u ih =>
    rw [Lib.decDigits, dg_pos h]
    by_cases h1 : u < 10
    · rw [dif_pos h1, show u / 10 = 0 by omega, dg_zero, Nat.mod_eq_of_lt h1]
      rfl
    · rw [dif_neg h1, ih (u / 10) (by omega) (by omega)]
      simp [chars, chr]
theorem putR_dg (n : Int) : putR n = if n = 0 then [48] else if n < 0 then 45 :: chars (dg n.natAbs) else chars (dg n.natAbs) := by
  unfold putR Lib.itoa
  by_cases h0 : n = 0
  · subst h0
    simp
    rw [Lib.decDigits]
    simp
  · rw [if_neg h0]
    by_cases h1 : n < 0
    · rw [if_pos h1, if_pos h1, decDigits_dg _ (by omega)]
    · rw [if_neg h1, if_neg h1, show n.toNat = n.natAbs by omega, decDigits_dg _ (by omega)]
theorem chr_nat {d : Nat} (h : d < 10) : (chr d).toNat = 48 + d := by
  unfold chr
  rw [UInt8.toNat_ofNat']
  omega
theorem dval_chr {d : Nat} (h : d < 10) : dval (chr d) = d := by
  unfold dval
  rw [chr_nat h]
  omega
theorem chr_dval {c : UInt8} (h : isDig c = true) : chr (dval c) = c := by
  have h2 : 48 ≤ c.toNat ∧ c.toNat ≤ 57 := by unfold isDig at h; simpa using h
  apply UInt8.toNat_inj.1
  rw [chr_nat (by unfold dval; omega)]
  unfold dval
  omega
theorem isDig_chr {d : Nat} (h : d < 10) : isDig (chr d) = true := by
  unfold isDig
  rw [chr_nat h]
  simp
  omega
theorem map_dval {l : List Nat} (h : Dig l) : (chars l).reverse.map dval = l := by
  unfold chars
  rw [List.reverse_reverse, List.map_map]
  have : ∀ d ∈ l, (dval ∘ chr) d = d := fun d hd => dval_chr (h d hd)
  rw [List.map_congr_left this]
  simp
theorem all_chars {l : List Nat} (h : Dig l) : (chars l).all isDig = true := by
  rw [List.all_eq_true]
  intro c hc
  unfold chars at hc
  obtain ⟨d, hd, rfl⟩ := List.mem_map.1 (List.mem_reverse.1 hc)
  exact isDig_chr (h d hd)
theorem head_chars (l : List Nat) : (chars l).head? = l.getLast?.map chr := by
  unfold chars
  rw [List.head?_reverse, List.getLast?_map]
theorem head_ne {m : Nat} (h : 0 < m) : (chars (dg m)).head? ≠ some 48 ∧ (chars (dg m)).head? ≠ some 45 ∧ chars (dg m) ≠ [] := by
  have hne : dg m ≠ [] := by rw [Ne, dg_ne]; omega
  obtain ⟨d, hd⟩ : ∃ d, (dg m).getLast? = some d := ⟨_, List.getLast?_eq_some_getLast hne⟩
  have h0 := dg_last m d hd
  have h9 : d < 10 := dig_dg m d (List.mem_of_getLast? hd)
  rw [head_chars, hd]
  refine ⟨fun e => ?_, fun e => ?_, fun e => ?_⟩
  · have := Option.some.inj e
    have := congrArg UInt8.toNat this
    rw [chr_nat h9] at this
    have h48 : (48 : UInt8).toNat = 48 := rfl
    omega
  · have := Option.some.inj e
    have := congrArg UInt8.toNat this
    rw [chr_nat h9] at this
    have h45 : (45 : UInt8).toNat = 45 := rfl
    omega
  · have e2 := head_chars (dg m)
    rw [e, hd] at e2
    cases e2
/-- What is put is parsed as it was. -/
theorem parse_put {a : Int} (ha : -9223372036854775808 ≤ a ∧ a ≤ 9223372036854775807) : parseR (putR a) = (a, 0) := by
  rw [putR_dg]
  by_cases h0 : a = 0
  · rw [if_pos h0, h0]; rfl
  · rw [if_neg h0]
    have hm : 0 < a.natAbs := by omega
    obtain ⟨h1, h2, h3⟩ := head_ne hm
    have hv : val ((chars (dg a.natAbs)).reverse.map dval) = a.natAbs := by rw [map_dval (dig_dg _), val_dg]
    have hall := all_chars (dig_dg a.natAbs)
    by_cases hn : a < 0
    · rw [if_pos hn]
      unfold parseR
      simp only [List.head?_cons, List.drop_succ_cons, List.drop_zero, show ((some (45 : UInt8)) == some 45) = true from rfl, if_true]
      rw [if_neg (by simp only [hall, h1, h3, Bool.true_eq_false, false_and, or_self, not_false_eq_true]), hv]
      rw [told_ok (by omega)]
      exact Prod.ext (by show -((a.natAbs : Nat) : Int) = a; omega) rfl
    · rw [if_neg hn]
      unfold parseR
      have hb : ((chars (dg a.natAbs)).head? == some 45) = false := by simpa using h2
      simp only [hb, Bool.false_eq_true, if_false]
      rw [if_neg (by simp only [hall, h1, h3, Bool.true_eq_false, false_and, or_self, not_false_eq_true]), hv]
      rw [told_ok (by omega)]
      exact Prod.ext (by show ((a.natAbs : Nat) : Int) = a; omega) rfl
theorem chars_of {t : List UInt8} (h : t.all isDig = true) : chars (t.reverse.map dval) = t := by
  unfold chars
  rw [List.map_map]
  have : ∀ c ∈ t.reverse, (chr ∘ dval) c = c := fun c hc => chr_dval (List.all_eq_true.1 h c (List.mem_reverse.1 hc))
  rw [List.map_congr_left this]
  simp
theorem dig_of {t : List UInt8} (h : t.all isDig = true) : Dig (t.reverse.map dval) := by
  intro d hd
  obtain ⟨c, hc, rfl⟩ := List.mem_map.1 hd
  have := List.all_eq_true.1 h c (List.mem_reverse.1 hc)
  unfold isDig at this
  unfold dval
  simp at this
  omega
/-- The digits of a text that begins with no 0 are its number's. -/
theorem dg_of {t : List UInt8} (h : t.all isDig = true) (hne : t ≠ []) (h0 : t.head? ≠ some 48) : chars (dg (val (t.reverse.map dval))) = t ∧ 0 < val (t.reverse.map dval) := by
  have hl : ∀ d, (t.reverse.map dval).getLast? = some d → d ≠ 0 := by
    intro d hd
    rw [List.getLast?_map, List.getLast?_reverse] at hd
    obtain ⟨c, hc, rfl⟩ := Option.map_eq_some_iff.1 hd
    intro e
    apply h0
    rw [hc]
    have hd2 := List.all_eq_true.1 h c (List.mem_of_head? hc)
    have := chr_dval hd2
    rw [e] at this
    rw [← this]
    rfl
  have hdg := dg_val (dig_of h) hl
  rw [hdg]
  refine ⟨chars_of h, ?_⟩
  rcases Nat.eq_zero_or_pos (val (t.reverse.map dval)) with e | e
  · rw [e, dg_zero] at hdg
    exact absurd (by simpa using hdg.symm) hne
  · exact e
theorem told_zero {x : Int} (h : (told x).2 = 0) : (told x).1 = x := by
  unfold told at h ⊢
  split
  · rfl
  · rename_i h1; rw [if_neg h1] at h; cases h
theorem told_non {x : Int} (h : (told x).2 ≠ 0) : (told x).1 = 0 := by
  unfold told at h ⊢
  split
  · rename_i h1; rw [if_pos h1] at h; exact absurd rfl h
  · rfl
/-- What is parsed is put so. -/
theorem put_parse {s : List UInt8} (h : (parseR s).2 = 0) : putR (parseR s).1 = s := by
  unfold parseR at h ⊢
  generalize hb : (s.head? == some 45) = b at h ⊢
  simp only at h ⊢
  generalize ht : (if b = true then s.drop 1 else s) = t at h ⊢
  by_cases hbad : t = [] ∨ (t.head? = some 48 ∧ (t.length > 1 ∨ b = true)) ∨ t.all isDig = false
  · rw [if_pos hbad] at h; cases h
  · rw [if_neg hbad] at h ⊢
    rw [told_zero h]
    have hne : t ≠ [] := fun e => hbad (.inl e)
    have hall : t.all isDig = true := by
      by_cases e : t.all isDig = true
      · exact e
      · exact absurd (.inr (.inr (by simpa using e))) hbad
    have hs : s = if b = true then 45 :: t else t := by
      cases b with
      | false => simpa using ht
      | true =>
        cases s with
        | nil => cases hb
        | cons c r =>
          have hc : c = 45 := by simpa using hb
          have ht : r = t := by simpa using ht
          rw [hc, ht]; rfl
    by_cases h0 : t.head? = some 48
    · have hb2 : b = false := by
        cases b with
        | false => rfl
        | true => exact absurd (.inr (.inl ⟨h0, .inr rfl⟩)) hbad
      have hl : ¬ t.length > 1 := fun e => hbad (.inr (.inl ⟨h0, .inl e⟩))
      have ht1 : t = [48] := by
        match t, h0, hl with
        | [c], h0, _ => simpa using h0
        | c :: d :: r, _, hl => simp at hl
      rw [hs, hb2, ht1]
      simp only [Bool.false_eq_true, if_false]
      rw [show val (List.map dval ([48] : List UInt8).reverse) = 0 by decide, putR_dg]
      rfl
    · obtain ⟨h1, h2⟩ := dg_of hall hne h0
      rw [hs, putR_dg]
      generalize val (t.reverse.map dval) = m at h1 h2
      cases b with
      | false =>
        simp only [Bool.false_eq_true, if_false]
        rw [if_neg (by omega), if_neg (by omega), Int.natAbs_natCast, h1]
      | true =>
        simp only [if_true]
        rw [if_neg (by omega), if_pos (by omega), Int.natAbs_neg, Int.natAbs_natCast, h1]
theorem parse_non {s : List UInt8} (h : (parseR s).2 ≠ 0) : (parseR s).1 = 0 := by
  unfold parseR at h ⊢
  generalize hb : (s.head? == some 45) = b at h ⊢
  simp only at h ⊢
  generalize ht : (if b = true then s.drop 1 else s) = t at h ⊢
  by_cases hbad : t = [] ∨ (t.head? = some 48 ∧ (t.length > 1 ∨ b = true)) ∨ t.all isDig = false
  · rw [if_pos hbad]
  · rw [if_neg hbad] at h ⊢
    exact told_non h
/-! ### Quotients and rests -/
theorem mod_ok {a b : Int} (ha : -9223372036854775808 ≤ a ∧ a ≤ 9223372036854775807) (hb0 : b ≠ 0) : modR a b = (a.tmod b, 0) := by
  unfold modR
  rw [if_neg hb0]
  apply told_ok
  have h1 := tmod_abs a b
  have h2 : a.natAbs % b.natAbs ≤ a.natAbs := Nat.mod_le _ _
  by_cases h : a < 0
  · rw [if_pos (by simpa using h)] at h1; omega
  · rw [if_neg (by simpa using h)] at h1; omega
theorem mod_sign {a b : Int} (hb0 : b ≠ 0) : (a.tmod b < 0 → a < 0) ∧ (a.tmod b > 0 → a > 0) ∧ (a.tmod b).natAbs < b.natAbs := by
  have h1 := tmod_abs a b
  have h2 : a.natAbs % b.natAbs < b.natAbs := Nat.mod_lt _ (by omega)
  by_cases h : a < 0
  · rw [if_pos (by simpa using h)] at h1; omega
  · rw [if_neg (by simpa using h)] at h1
    refine ⟨by omega, fun h3 => ?_, by omega⟩
    have : a ≠ 0 := by
      intro e
      subst e
      simp at h3
    omega
theorem div_bad {a b : Int} (ha : -9223372036854775808 ≤ a ∧ a ≤ 9223372036854775807) (hb0 : b ≠ 0) (h : (divR a b).2 ≠ 0) : (divR a b).2 = 60 ∧ a = -9223372036854775808 ∧ b = -1 ∧ a.tmod b = 0 := by
  unfold divR at h ⊢
  rw [if_neg hb0] at h ⊢
  have hq := tdiv_abs a b
  have hle : a.natAbs / b.natAbs ≤ a.natAbs := Nat.div_le_self _ _
  by_cases hf : -9223372036854775808 ≤ a.tdiv b ∧ a.tdiv b ≤ 9223372036854775807
  · rw [told_ok hf] at h; exact absurd rfl h
  · rw [told_bad hf]
    have hbig : a.natAbs = 9223372036854775808 ∧ a.natAbs / b.natAbs = 9223372036854775808 ∧ ¬ (decide (a < 0) != decide (b < 0)) = true := by
      generalize a.natAbs / b.natAbs = q at hq hle ⊢
      by_cases hs : (decide (a < 0) != decide (b < 0)) = true
      · rw [if_pos hs] at hq; omega
      · rw [if_neg hs] at hq; exact ⟨by omega, by omega, hs⟩
    obtain ⟨h1, h2, h3⟩ := hbig
    have ha2 : a = -9223372036854775808 := by omega
    have hb1 : b.natAbs = 1 := by
      rw [h1] at h2
      rcases Nat.lt_or_ge 1 b.natAbs with h4 | h4
      · have h5 := Nat.div_le_div_left (a := 9223372036854775808) h4 (by omega)
        have h6 : 9223372036854775808 / b.natAbs ≤ 9223372036854775808 / 2 := Nat.div_le_div_left h4 (by omega)
        omega
      · omega
    have hb : b < 0 := by
      rcases Int.lt_or_le b 0 with h4 | h4
      · exact h4
      · exfalso
        apply h3
        have e1 : decide (a < 0) = true := by rw [decide_eq_true_iff]; omega
        have e2 : decide (b < 0) = false := by rw [decide_eq_false_iff_not]; omega
        rw [e1, e2]; rfl
    have hb2 : b = -1 := by omega
    refine ⟨rfl, ha2, hb2, ?_⟩
    subst ha2 hb2
    rfl
theorem div_ok {a b : Int} (ha : -9223372036854775808 ≤ a ∧ a ≤ 9223372036854775807) (hb0 : b ≠ 0) (h : (divR a b).2 = 0) : told ((divR a b).1 * b) = (a - a.tmod b, 0) ∧ told (a - a.tmod b + a.tmod b) = (a, 0) := by
  have hd : (divR a b).1 = a.tdiv b := by
    unfold divR at h ⊢
    rw [if_neg hb0] at h ⊢
    exact told_zero h
  have e : a.tdiv b * b = a - a.tmod b := by
    have := Int.tmod_add_mul_tdiv a b
    rw [Int.mul_comm b] at this
    omega
  rw [hd, e]
  obtain ⟨h1, h2, h3⟩ := mod_sign (a := a) hb0
  have h4 := tmod_abs a b
  have h5 : a.natAbs % b.natAbs ≤ a.natAbs := Nat.mod_le _ _
  refine ⟨told_ok ?_, ?_⟩
  · by_cases hn : a < 0
    · rw [if_pos (by simpa using hn)] at h4; omega
    · rw [if_neg (by simpa using hn)] at h4; omega
  · rw [show a - a.tmod b + a.tmod b = a by omega]
    exact told_ok ha
theorem add_sub {a b : Int} (ha : -9223372036854775808 ≤ a ∧ a ≤ 9223372036854775807) (h : (told (a + b)).2 = 0) : told ((told (a + b)).1 - b) = (a, 0) := by
  rw [told_zero h, show a + b - b = a by omega]
  exact told_ok ha
end Go.Hs.PutLaw
end

section
namespace Go.Hs
open Go.Proofs
set_option maxRecDepth 10000
theorem putR_len {a : Int} (ha : InK .i64 a) : (putR a).length < 1000000 := by
  have h := len_of ha
  rw [putR_dg]
  split
  · simp
  · split
    · rw [List.length_cons, chars_len]
      have := dg_len (n := a.natAbs) (k := 20) (by have := (inK_iff a).1 ha; omega)
      omega
    · rw [chars_len]; exact h
theorem parseR_inK (s : List UInt8) : InK .i64 (parseR s).1 := by
  unfold parseR
  generalize (s.head? == some 45) = b
  simp only
  generalize (if b = true then s.drop 1 else s) = t
  by_cases hbad : t = [] ∨ (t.head? = some 48 ∧ (t.length > 1 ∨ b = true)) ∨ t.all isDig = false
  · rw [if_pos hbad]; exact (inK_iff _).2 (by omega)
  · rw [if_neg hbad]; exact told_inK _
theorem wneg {n : Int} (h1 : -9223372036854775808 < n) (h2 : n ≤ 9223372036854775807) : IntKind.i64.wrap (0 - n) = -n := by rw [w64 (by omega) (by omega)]; omega
/-- The rest's tests, each as the walk meets it. -/
theorem rest_tests {a b r : Int} (ha : InK .i64 a) (hb : InK .i64 b) (hb0 : b ≠ 0) (h1 : r < 0 → a < 0) (h2 : r > 0 → a > 0) (h3 : r.natAbs < b.natAbs) :
    (r < 0 ∧ 0 < b ∧ decide (r < 0) = true ∧ decide (a ≥ 0) = false ∧ decide (r > 0) = false ∧ decide (b > 0) = true ∧ decide (r ≤ IntKind.i64.wrap (0 - b)) = false ∧ decide (b < 0) = false) ∨
    (r < 0 ∧ b < 0 ∧ decide (r < 0) = true ∧ decide (a ≥ 0) = false ∧ decide (r > 0) = false ∧ decide (b > 0) = false ∧ decide (b < 0) = true ∧ decide (r ≤ b) = false) ∨
    (r = 0 ∧ decide (r < 0) = false ∧ decide (r > 0) = false) ∨
    (r > 0 ∧ 0 < b ∧ decide (r < 0) = false ∧ decide (r > 0) = true ∧ decide (a ≤ 0) = false ∧ decide (b > 0) = true ∧ decide (r ≥ b) = false ∧ decide (b < 0) = false) ∨
    (r > 0 ∧ b < 0 ∧ decide (r < 0) = false ∧ decide (r > 0) = true ∧ decide (a ≤ 0) = false ∧ decide (b > 0) = false ∧ decide (b < 0) = true ∧ decide (IntKind.i64.wrap (0 - r) ≤ b) = false) := by
  have ha' := (inK_iff a).1 ha
  have hb' := (inK_iff b).1 hb
  simp only [decide_eq_true_eq, decide_eq_false_iff_not]
  rcases Int.lt_trichotomy r 0 with h | h | h
  · rcases Int.lt_or_gt_of_ne hb0 with h4 | h4
    · exact .inr (.inl ⟨h, h4, h, by have := h1 h; omega, by omega, by omega, h4, by omega⟩)
    · exact .inl ⟨h, h4, h, by have := h1 h; omega, by omega, h4, by rw [wneg (by omega) (by omega)]; omega, by omega⟩
  · exact .inr (.inr (.inl ⟨h, by omega, by omega⟩))
  · rcases Int.lt_or_gt_of_ne hb0 with h4 | h4
    · exact .inr (.inr (.inr (.inr ⟨h, h4, by omega, h, by have := h2 h; omega, by omega, h4, by rw [wneg (by omega) (by omega)]; omega⟩)))
    · exact .inr (.inr (.inr (.inl ⟨h, h4, by omega, h, by have := h2 h; omega, h4, by omega, by omega⟩)))
/- NumBack -/
theorem lawBack_spec (G : Nat → V) (hN : GNum G) (a b : Int) (s : List UInt8) (ha : InK .i64 a) (hb : InK .i64 b) : Spec Tryd.prog G 6 [.int .i64 a, .int .i64 b, .str s] hNone (fun v _ => v = .bool true) := by
  have hG := hN.ok
  have ha' := (inK_iff a).1 ha
  have hb' := (inK_iff b).1 hb
  refine Spec.of_code' 0 220 [.tmp 6] Tryd.func6 rfl rfl rfl rfl fun X => ?_
  refine AW.seq_k fun K hK => AW.region (by kernel_rfl) ?_
  simp -implicitDefEqProofs only [go_sem, seval, ↓reduceIte]
  refine hK _ ?_
  clear hK K
  refine AW.seq_k fun K1 hK1 => ?_
  refine AW.seq_k fun K hK => AW.region (by kernel_rfl) ?_
  simp -implicitDefEqProofs only [go_sem, seval, ↓reduceIte]
  refine hK _ ?_
  clear hK K
  refine AW.condS (by simp -implicitDefEqProofs only [go_sem, seval, ↓reduceIte]; rfl) (fun h2 => ?_) (fun h2 => ?_)
  · refine AW.seq_k fun K hK => AW.region (by kernel_rfl) ?_
    simp -implicitDefEqProofs only [go_sem, seval, ↓reduceIte]
    refine CallA.pure hG (by kernel_rfl) ?_
    simp -implicitDefEqProofs only [go_sem, seval, ↓reduceIte]
    refine (works_spec G hN).mono ?_
    rintro _ _ rfl
    simp -implicitDefEqProofs only [go_sem, seval, ↓reduceIte]
    refine hK _ ?_
    clear hK K
    refine AW.ret ?_
    simp -implicitDefEqProofs only [go_sem, seval, ↓reduceIte]
    refine endK_some ?_
    rfl
  · have hs : s.length < 1000000 := by have := of_decide_eq_false h2; omega
    refine AW.skip ?_
    simp -implicitDefEqProofs only [go_sem, seval, ↓reduceIte]
    refine hK1 _ ?_
    refine AW.seq_k fun K hK => AW.region (by kernel_rfl) ?_
    simp -implicitDefEqProofs only [go_sem, seval, ↓reduceIte]
    refine CallA.pure hG (by kernel_rfl) ?_
    simp -implicitDefEqProofs only [go_sem, seval, ↓reduceIte]
    refine (nPut_spec G hN a ha).mono ?_
    rintro _ _ rfl
    simp -implicitDefEqProofs only [go_sem, seval, ↓reduceIte]
    refine CallA.pure hG (by kernel_rfl) ?_
    simp -implicitDefEqProofs only [go_sem, seval, ↓reduceIte]
    refine (nParse_spec G hN (putR a) (putR_len ha)).mono ?_
    rintro _ _ rfl
    rw [PutLaw.parse_put ha']
    simp -implicitDefEqProofs only [go_sem, seval, ↓reduceIte, encR]
    refine hK _ ?_
    clear hK K
    refine AW.seq_k fun K2 hK2 => ?_
    refine AW.seq_k fun K hK => AW.region (by kernel_rfl) ?_
    simp -implicitDefEqProofs only [go_sem, seval, ↓reduceIte, bne_self_eq_false]
    refine hK _ ?_
    clear hK K
    refine AW.condS (by simp -implicitDefEqProofs only [go_sem, seval, ↓reduceIte]; rfl) (fun h => ?_) (fun h => ?_)
    · cases h
    refine AW.skip ?_
    simp -implicitDefEqProofs only [go_sem, seval, ↓reduceIte]
    refine hK2 _ ?_
    refine AW.seq_k fun K hK => AW.region (by kernel_rfl) ?_
    simp -implicitDefEqProofs only [go_sem, seval, ↓reduceIte]
    refine CallA.pure hG (by kernel_rfl) ?_
    simp -implicitDefEqProofs only [go_sem, seval, ↓reduceIte]
    refine (nParse_spec G hN s hs).mono ?_
    rintro _ _ rfl
    have hput := PutLaw.put_parse (s := s)
    have hz := PutLaw.parse_non (s := s)
    have hmK := parseR_inK s
    generalize parseR s = p at hput hz hmK
    obtain ⟨m, f⟩ := p
    simp -implicitDefEqProofs only [go_sem, seval, ↓reduceIte, encR]
    refine hK _ ?_
    clear hK K
    refine AW.seqJ (fun (_ : Unit) => st [(0, .int .i64 a), (1, .int .i64 b), (2, .str s)] []) (fun _ => True) (fun K3 hK3 => ?_) ?_
    · by_cases hf : f = 0
      · subst hf
        have hpm : putR m = s := hput rfl
        refine AW.seq_k fun K hK => AW.region (by kernel_rfl) ?_
        simp -implicitDefEqProofs only [go_sem, seval, ↓reduceIte, bne_self_eq_false, beq_self_eq_true]
        refine CallA.pure hG (by kernel_rfl) ?_
        simp -implicitDefEqProofs only [go_sem, seval, ↓reduceIte]
        refine (nPut_spec G hN m hmK).mono ?_
        rintro _ _ rfl
        rw [hpm]
        simp -implicitDefEqProofs only [go_sem, seval, ↓reduceIte, bne_self_eq_false]
        refine hK _ ?_
        clear hK K
        refine AW.condS (by simp -implicitDefEqProofs only [go_sem, seval, ↓reduceIte]; rfl) (fun h => ?_) (fun h => ?_)
        · cases h
        · refine AW.skip ?_
          simp -implicitDefEqProofs only [go_sem, seval, ↓reduceIte]
          exact hK3 _ () trivial (Weak.st (by simp -implicitDefEqProofs only [go_sem, seval, ↓reduceIte]) (by simp -implicitDefEqProofs only [go_sem, seval, ↓reduceIte]))
      · have hm0 : m = 0 := hz hf
        subst hm0
        have b1 : (f == 0) = false := by simpa using hf
        have b2 : (f != 0) = true := by simpa using hf
        refine AW.seq_k fun K hK => AW.region (by kernel_rfl) ?_
        simp -implicitDefEqProofs only [go_sem, seval, ↓reduceIte, b1, b2, bne_self_eq_false]
        refine hK _ ?_
        clear hK K
        refine AW.condS (by simp -implicitDefEqProofs only [go_sem, seval, ↓reduceIte]; rfl) (fun h => ?_) (fun h => ?_)
        · cases h
        · refine AW.skip ?_
          simp -implicitDefEqProofs only [go_sem, seval, ↓reduceIte]
          exact hK3 _ () trivial (Weak.st (by simp -implicitDefEqProofs only [go_sem, seval, ↓reduceIte]) (by simp -implicitDefEqProofs only [go_sem, seval, ↓reduceIte]))
    clear hput hz hmK
    intro _ _
    refine AW.seq_k fun K hK => AW.region (by kernel_rfl) ?_
    simp -implicitDefEqProofs only [go_sem, seval, ↓reduceIte]
    refine CallA.pure hG (by kernel_rfl) ?_
    simp -implicitDefEqProofs only [go_sem, seval, ↓reduceIte]
    refine (nAdd_spec G hG a b ha hb).mono ?_
    rintro _ _ rfl
    simp -implicitDefEqProofs only [go_sem, seval, ↓reduceIte, encR]
    refine hK _ ?_
    clear hK K
    refine AW.seqJ (fun (_ : Unit) => st [(0, .int .i64 a), (1, .int .i64 b)] []) (fun _ => True) (fun K4 hK4 => ?_) ?_
    · by_cases hf : (told (a + b)).2 = 0
      · have b1 : ((told (a + b)).2 == 0) = true := by simpa using hf
        have hsub := PutLaw.add_sub ha' hf
        have htK := told_inK (a + b)
        generalize told (a + b) = p at b1 hsub htK
        refine AW.seq_k fun K hK => AW.region (by kernel_rfl) ?_
        simp -implicitDefEqProofs only [go_sem, seval, ↓reduceIte, b1]
        refine hK _ ?_
        clear hK K
        refine AW.condS (by simp -implicitDefEqProofs only [go_sem, seval, ↓reduceIte]; rfl) (fun h => ?_) (fun h => ?_)
        · refine AW.seq_k fun K hK => AW.region (by kernel_rfl) ?_
          simp -implicitDefEqProofs only [go_sem, seval, ↓reduceIte]
          refine CallA.pure hG (by kernel_rfl) ?_
          simp -implicitDefEqProofs only [go_sem, seval, ↓reduceIte]
          refine (nSub_spec G hG p.1 b htK hb).mono ?_
          rintro _ _ rfl
          rw [hsub]
          simp -implicitDefEqProofs only [go_sem, seval, ↓reduceIte, encR]
          refine hK _ ?_
          clear hK K
          refine AW.seq_k fun K hK => AW.region (by kernel_rfl) ?_
          simp -implicitDefEqProofs only [go_sem, seval, ↓reduceIte, bne_self_eq_false]
          refine hK _ ?_
          clear hK K
          refine AW.condS (by simp -implicitDefEqProofs only [go_sem, seval, ↓reduceIte]; rfl) (fun h => ?_) (fun h => ?_)
          · cases h
          · refine AW.skip ?_
            simp -implicitDefEqProofs only [go_sem, seval, ↓reduceIte]
            exact hK4 _ () trivial (Weak.st (by simp -implicitDefEqProofs only [go_sem, seval, ↓reduceIte]) (by simp -implicitDefEqProofs only [go_sem, seval, ↓reduceIte]))
        · cases h
      · have b1 : ((told (a + b)).2 == 0) = false := by simpa using hf
        refine AW.seq_k fun K hK => AW.region (by kernel_rfl) ?_
        simp -implicitDefEqProofs only [go_sem, seval, ↓reduceIte, b1]
        refine hK _ ?_
        clear hK K
        refine AW.condS (by simp -implicitDefEqProofs only [go_sem, seval, ↓reduceIte]; rfl) (fun h => ?_) (fun h => ?_)
        · cases h
        · refine AW.skip ?_
          simp -implicitDefEqProofs only [go_sem, seval, ↓reduceIte]
          exact hK4 _ () trivial (Weak.st (by simp -implicitDefEqProofs only [go_sem, seval, ↓reduceIte]) (by simp -implicitDefEqProofs only [go_sem, seval, ↓reduceIte]))
    intro _ _
    refine AW.seq_k fun K hK => AW.region (by kernel_rfl) ?_
    simp -implicitDefEqProofs only [go_sem, seval, ↓reduceIte]
    refine CallA.pure hG (by kernel_rfl) ?_
    simp -implicitDefEqProofs only [go_sem, seval, ↓reduceIte]
    refine (nDiv_spec G hG a b ha hb).mono ?_
    rintro _ _ rfl
    simp -implicitDefEqProofs only [go_sem, seval, ↓reduceIte, encR]
    refine hK _ ?_
    clear hK K
    refine AW.seq_k fun K hK => AW.region (by kernel_rfl) ?_
    simp -implicitDefEqProofs only [go_sem, seval, ↓reduceIte]
    refine CallA.pure hG (by kernel_rfl) ?_
    simp -implicitDefEqProofs only [go_sem, seval, ↓reduceIte]
    refine (nMod_spec G hG a b ha hb).mono ?_
    rintro _ _ rfl
    simp -implicitDefEqProofs only [go_sem, seval, ↓reduceIte, encR]
    refine hK _ ?_
    clear hK K
    by_cases hb0 : b = 0
    · subst hb0
      rw [show divR a 0 = (0, 61) from rfl, show modR a 0 = (0, 61) from rfl]
      refine AW.seq_k fun K5 hK5 => ?_
      refine AW.seq_k fun K hK => AW.region (by kernel_rfl) ?_
      simp -implicitDefEqProofs only [go_sem, seval, ↓reduceIte, beq_self_eq_true]
      refine hK _ ?_
      clear hK K
      refine AW.condS (by simp -implicitDefEqProofs only [go_sem, seval, ↓reduceIte]; rfl) (fun h => ?_) (fun h => ?_)
      · refine AW.seq_k fun K hK => AW.region (by kernel_rfl) ?_
        simp -implicitDefEqProofs only [go_sem, seval, ↓reduceIte, beq_self_eq_true]
        refine CallA.pure hG (by kernel_rfl) ?_
        simp -implicitDefEqProofs only [go_sem, seval, ↓reduceIte]
        refine (works_spec G hN).mono ?_
        rintro _ _ rfl
        simp -implicitDefEqProofs only [go_sem, seval, ↓reduceIte]
        refine hK _ ?_
        clear hK K
        refine AW.ret ?_
        simp -implicitDefEqProofs only [go_sem, seval, ↓reduceIte]
        refine endK_some ?_
        rfl
      · cases h
    · have b0 : (b == 0) = false := by simpa using hb0
      have hbad := PutLaw.div_bad ha' hb0
      have hok := PutLaw.div_ok ha' hb0
      obtain ⟨hs1, hs2, hs3⟩ := PutLaw.mod_sign (a := a) hb0
      have hrK : InK .i64 (a.tmod b) := by
        have := told_inK (a.tmod b)
        have h5 := PutLaw.mod_ok ha' hb0
        unfold modR at h5
        rw [if_neg hb0] at h5
        rw [h5] at this
        exact this
      have hqK : InK .i64 (divR a b).1 := by
        unfold divR
        rw [if_neg hb0]
        exact told_inK _
      rw [PutLaw.mod_ok ha' hb0]
      generalize a.tmod b = r at hbad hok hs1 hs2 hs3 hrK
      generalize divR a b = q at hbad hok hqK
      obtain ⟨q, f⟩ := q
      refine AW.seq_k fun K5 hK5 => ?_
      refine AW.seq_k fun K hK => AW.region (by kernel_rfl) ?_
      simp -implicitDefEqProofs only [go_sem, seval, ↓reduceIte, b0]
      refine hK _ ?_
      clear hK K
      refine AW.condS (by simp -implicitDefEqProofs only [go_sem, seval, ↓reduceIte]; rfl) (fun h => ?_) (fun h => ?_)
      · cases h
      refine AW.skip ?_
      simp -implicitDefEqProofs only [go_sem, seval, ↓reduceIte]
      refine hK5 _ ?_
      refine AW.seqJ (fun (_ : Unit) => st [(0, .int .i64 a), (1, .int .i64 b), (15, .int .i64 q), (16, .int .i64 f), (17, .int .i64 r)] []) (fun _ => True) (fun K6 hK6 => ?_) ?_
      · clear hbad hok hqK
        rcases rest_tests ha hb hb0 hs1 hs2 hs3 with ⟨_, _, d1, d2, d3, d4, d5, d6⟩ | ⟨_, _, d1, d2, d3, d4, d5, d6⟩ | ⟨_, d1, d2⟩ | ⟨_, _, d1, d2, d3, d4, d5, d6⟩ | ⟨_, _, d1, d2, d3, d4, d5, d6⟩
        · refine AW.seq_k fun K hK => AW.region (by kernel_rfl) ?_
          simp -implicitDefEqProofs only [go_sem, seval, ↓reduceIte, List.append_eq, List.cons_append, List.nil_append, bne_self_eq_false, d1, d2, d3, d4, d5, d6]
          refine hK _ ?_
          clear hK K
          refine AW.condS (by simp -implicitDefEqProofs only [go_sem, seval, ↓reduceIte]; rfl) (fun h => ?_) (fun h => ?_)
          · cases h
          · refine AW.skip ?_
            simp -implicitDefEqProofs only [go_sem, seval, ↓reduceIte]
            exact hK6 _ () trivial (Weak.st (by simp -implicitDefEqProofs only [go_sem, seval, ↓reduceIte]) (by simp -implicitDefEqProofs only [go_sem, seval, ↓reduceIte]))
        · refine AW.seq_k fun K hK => AW.region (by kernel_rfl) ?_
          simp -implicitDefEqProofs only [go_sem, seval, ↓reduceIte, List.append_eq, List.cons_append, List.nil_append, bne_self_eq_false, d1, d2, d3, d4, d5, d6]
          refine hK _ ?_
          clear hK K
          refine AW.condS (by simp -implicitDefEqProofs only [go_sem, seval, ↓reduceIte]; rfl) (fun h => ?_) (fun h => ?_)
          · cases h
          · refine AW.skip ?_
            simp -implicitDefEqProofs only [go_sem, seval, ↓reduceIte]
            exact hK6 _ () trivial (Weak.st (by simp -implicitDefEqProofs only [go_sem, seval, ↓reduceIte]) (by simp -implicitDefEqProofs only [go_sem, seval, ↓reduceIte]))
        · refine AW.seq_k fun K hK => AW.region (by kernel_rfl) ?_
          simp -implicitDefEqProofs only [go_sem, seval, ↓reduceIte, List.append_eq, List.cons_append, List.nil_append, bne_self_eq_false, d1, d2]
          refine hK _ ?_
          clear hK K
          refine AW.condS (by simp -implicitDefEqProofs only [go_sem, seval, ↓reduceIte]; rfl) (fun h => ?_) (fun h => ?_)
          · cases h
          · refine AW.skip ?_
            simp -implicitDefEqProofs only [go_sem, seval, ↓reduceIte]
            exact hK6 _ () trivial (Weak.st (by simp -implicitDefEqProofs only [go_sem, seval, ↓reduceIte]) (by simp -implicitDefEqProofs only [go_sem, seval, ↓reduceIte]))
        · refine AW.seq_k fun K hK => AW.region (by kernel_rfl) ?_
          simp -implicitDefEqProofs only [go_sem, seval, ↓reduceIte, List.append_eq, List.cons_append, List.nil_append, bne_self_eq_false, d1, d2, d3, d4, d5, d6]
          refine hK _ ?_
          clear hK K
          refine AW.condS (by simp -implicitDefEqProofs only [go_sem, seval, ↓reduceIte]; rfl) (fun h => ?_) (fun h => ?_)
          · cases h
          · refine AW.skip ?_
            simp -implicitDefEqProofs only [go_sem, seval, ↓reduceIte]
            exact hK6 _ () trivial (Weak.st (by simp -implicitDefEqProofs only [go_sem, seval, ↓reduceIte]) (by simp -implicitDefEqProofs only [go_sem, seval, ↓reduceIte]))
        · refine AW.seq_k fun K hK => AW.region (by kernel_rfl) ?_
          simp -implicitDefEqProofs only [go_sem, seval, ↓reduceIte, List.append_eq, List.cons_append, List.nil_append, bne_self_eq_false, d1, d2, d3, d4, d5, d6]
          refine hK _ ?_
          clear hK K
          refine AW.condS (by simp -implicitDefEqProofs only [go_sem, seval, ↓reduceIte]; rfl) (fun h => ?_) (fun h => ?_)
          · cases h
          · refine AW.skip ?_
            simp -implicitDefEqProofs only [go_sem, seval, ↓reduceIte]
            exact hK6 _ () trivial (Weak.st (by simp -implicitDefEqProofs only [go_sem, seval, ↓reduceIte]) (by simp -implicitDefEqProofs only [go_sem, seval, ↓reduceIte]))
      intro _ _
      refine AW.seq_k fun K7 hK7 => ?_
      by_cases hf : f = 0
      · subst hf
        obtain ⟨h1, h2⟩ := hok rfl
        have h1 : told (q * b) = (a - r, 0) := h1
        have hpK : InK .i64 (a - r) := by have := told_inK (q * b); rw [h1] at this; exact this
        refine AW.seq_k fun K hK => AW.region (by kernel_rfl) ?_
        simp -implicitDefEqProofs only [go_sem, seval, ↓reduceIte, bne_self_eq_false]
        refine hK _ ?_
        clear hK K
        refine AW.condS (by simp -implicitDefEqProofs only [go_sem, seval, ↓reduceIte]; rfl) (fun h => ?_) (fun h => ?_)
        · cases h
        refine AW.skip ?_
        simp -implicitDefEqProofs only [go_sem, seval, ↓reduceIte]
        refine hK7 _ ?_
        refine AW.seq_k fun K hK => AW.region (by kernel_rfl) ?_
        simp -implicitDefEqProofs only [go_sem, seval, ↓reduceIte]
        refine CallA.pure hG (by kernel_rfl) ?_
        simp -implicitDefEqProofs only [go_sem, seval, ↓reduceIte]
        refine (nMul_spec G hG q b hqK hb).mono ?_
        rintro _ _ rfl
        rw [h1]
        simp -implicitDefEqProofs only [go_sem, seval, ↓reduceIte, encR]
        refine hK _ ?_
        clear hK K
        refine AW.seq_k fun K8 hK8 => ?_
        refine AW.seq_k fun K hK => AW.region (by kernel_rfl) ?_
        simp -implicitDefEqProofs only [go_sem, seval, ↓reduceIte, bne_self_eq_false]
        refine hK _ ?_
        clear hK K
        refine AW.condS (by simp -implicitDefEqProofs only [go_sem, seval, ↓reduceIte]; rfl) (fun h => ?_) (fun h => ?_)
        · cases h
        refine AW.skip ?_
        simp -implicitDefEqProofs only [go_sem, seval, ↓reduceIte]
        refine hK8 _ ?_
        refine AW.seq_k fun K hK => AW.region (by kernel_rfl) ?_
        simp -implicitDefEqProofs only [go_sem, seval, ↓reduceIte]
        refine CallA.pure hG (by kernel_rfl) ?_
        simp -implicitDefEqProofs only [go_sem, seval, ↓reduceIte]
        refine (nAdd_spec G hG (a - r) r hpK hrK).mono ?_
        rintro _ _ rfl
        rw [h2]
        simp -implicitDefEqProofs only [go_sem, seval, ↓reduceIte, encR]
        refine hK _ ?_
        clear hK K
        refine AW.seq_k fun K hK => AW.region (by kernel_rfl) ?_
        simp -implicitDefEqProofs only [go_sem, seval, ↓reduceIte, beq_self_eq_true]
        refine CallA.pure hG (by kernel_rfl) ?_
        simp -implicitDefEqProofs only [go_sem, seval, ↓reduceIte]
        refine (works_spec G hN).mono ?_
        rintro _ _ rfl
        simp -implicitDefEqProofs only [go_sem, seval, ↓reduceIte]
        refine hK _ ?_
        clear hK K
        refine AW.ret ?_
        simp -implicitDefEqProofs only [go_sem, seval, ↓reduceIte]
        refine endK_some ?_
        rfl
      · obtain ⟨h1, h2, h3, h4⟩ := hbad hf
        have h1 : f = 60 := h1
        subst h1 h2 h3 h4
        refine AW.seq_k fun K hK => AW.region (by kernel_rfl) ?_
        simp -implicitDefEqProofs only [go_sem, seval, ↓reduceIte]
        refine hK _ ?_
        clear hK K
        refine AW.condS (by simp -implicitDefEqProofs only [go_sem, seval, ↓reduceIte]; rfl) (fun h => ?_) (fun h => ?_)
        · refine AW.seq_k fun K hK => AW.region (by kernel_rfl) ?_
          simp -implicitDefEqProofs only [go_sem, seval, ↓reduceIte, beq_self_eq_true]
          refine CallA.pure hG (by kernel_rfl) ?_
          simp -implicitDefEqProofs only [go_sem, seval, ↓reduceIte]
          refine (works_spec G hN).mono ?_
          rintro _ _ rfl
          simp -implicitDefEqProofs only [go_sem, seval, ↓reduceIte]
          refine hK _ ?_
          clear hK K
          refine AW.ret ?_
          simp -implicitDefEqProofs only [go_sem, seval, ↓reduceIte]
          refine endK_some ?_
          rfl
        · cases h
end Go.Hs
end

section
namespace Go.Hs
open Go.Proofs
set_option maxRecDepth 10000
def klL : List Int := [-9223372036854775808, -9223372036854775807, -4611686018427387904, -3037000500, -3037000499, -4294967296, -10, -7, -2, -1, 0, 1, 2, 3, 7, 10, 4294967295, 4294967296, 3037000499, 3037000500, 4611686018427387904, 9223372036854775806, 9223372036854775807]
def txL : List (List UInt8) := [[], [45], [48], [45, 48], [48, 48], [48, 48, 55], [45, 48, 55], [49, 32], [32, 49], [43, 49], [49, 101, 51], [49, 50, 97], [45, 45, 49], [57, 50, 50, 51, 51, 55, 50, 48, 51, 54, 56, 53, 52, 55, 55, 53, 56, 48, 55], [57, 50, 50, 51, 51, 55, 50, 48, 51, 54, 56, 53, 52, 55, 55, 53, 56, 48, 56], [45, 57, 50, 50, 51, 51, 55, 50, 48, 51, 54, 56, 53, 52, 55, 55, 53, 56, 48, 56], [45, 57, 50, 50, 51, 51, 55, 50, 48, 51, 54, 56, 53, 52, 55, 55, 53, 56, 48, 57], [49, 56, 52, 52, 54, 55, 52, 52, 48, 55, 51, 55, 48, 57, 53, 53, 49, 54, 49, 54], [57, 57, 57, 57, 57, 57, 57, 57, 57, 57, 57, 57, 57, 57, 57, 57, 57, 57, 57, 57, 57, 57, 57, 57, 57, 57]]
def tx : Sl (List UInt8) := .mk false txL
theorem tx_len : tx.l.length < 1000 := by decide
def kl : Sl Int := .mk false klL
theorem kl_in : ∀ x ∈ kl.l, InK .i64 x := by decide
theorem kl_len : kl.l.length < 1000 := by decide
theorem pureK {G : Nat → V} {f : FuncId} {args : List V} (he : enterable Tryd.prog f = true) (h : Spec Tryd.prog G f (args.map (V.recol Col.ent)) hNone (fun v _ => v = .bool true)) : PureC Tryd.prog G f args (.bool true) := ⟨he, h.mono fun v _ e => by rw [e]; rfl⟩
/- NumKnown -/
theorem lawKnown_spec (G : Nat → V) (hN : GNum G) : Spec Tryd.prog G 7 [] hNone (fun v _ => v = .bool true) := by
  have hG := hN.ok
  refine Spec.of_code' 0 138 [.tmp 0] Tryd.func7 rfl rfl rfl rfl fun X => ?_
  refine AW.seq_k fun K hK => AW.region (by kernel_rfl) ?_
  simp -implicitDefEqProofs only [go_sem, seval, ↓reduceIte]
  refine hK _ ?_
  clear hK K
  refine AW.seq_k fun K hK => AW.region (by kernel_rfl) ?_
  simp -implicitDefEqProofs only [go_sem, seval, ↓reduceIte]
  intro g6
  refine hK _ ?_
  clear hK K
  refine AW.weak (Weak.stF (fun o => o == 6) (l := [(1, encSl .new 1 (V.int .i64) kl)]) (m := []) ?_ trivial) ?_
  · simp -implicitDefEqProofs only [go_sem, seval, ↓reduceIte]
    exact Fz.sl (f := V.int .i64) (l := klL) (g := g6) (fz := 0) (c := .new) rfl (by simp -implicitDefEqProofs only [go_sem, seval, ↓reduceIte]; try rfl) (fun _ => rfl)
  have hin := kl_in
  have hln := kl_len
  generalize kl = s at hin hln
  refine AW.seq_k fun K1 hK1 => ?_
  refine AW.seq_k fun K hK => AW.region (by kernel_rfl) ?_
  simp -implicitDefEqProofs only [go_sem, seval, ↓reduceIte]
  refine hK _ ?_
  clear hK K
  refine AW.block ?_
  refine AW.for s.l.length (fun k (_ : Unit) => st [(1, encSl .new 1 (V.int .i64) s), (2, .int .i64 k)] []) (fun k _ => True) 0 () (Nat.zero_le _) trivial
    (Weak.st (by simp -implicitDefEqProofs only [go_sem, seval, ↓reduceIte]; try rfl) (by simp -implicitDefEqProofs only [go_sem, seval, ↓reduceIte]; try rfl)) ?_
  intro k _ hk _ L2 hL2
  refine AW.seq_k fun K3 hK3 => ?_
  refine AW.seq_k fun K hK => AW.region (by kernel_rfl) ?_
  simp -implicitDefEqProofs only [go_sem, seval, ↓reduceIte]
  refine hK _ ?_
  clear hK K
  refine AW.condS (by simp -implicitDefEqProofs only [go_sem, seval, ↓reduceIte]; rfl) (fun h4 => ?_) (fun h4 => ?_)
  · have hk1 : k < s.l.length := by have := of_decide_eq_true h4; omega
    have gi := List.getElem?_eq_getElem hk1
    have hx := hin _ (List.getElem_mem hk1)
    generalize s.l[k] = x at gi hx
    refine AW.skip ?_
    simp -implicitDefEqProofs only [go_sem, seval, ↓reduceIte]
    refine hK3 _ ?_
    refine AW.seq_k fun K5 hK5 => ?_
    refine AW.block ?_
    refine AW.seq_k fun K6 hK6 => ?_
    refine AW.seq_k fun K hK => AW.region (by kernel_rfl) ?_
    simp -implicitDefEqProofs only [go_sem, seval, ↓reduceIte]
    refine hK _ ?_
    clear hK K
    refine AW.block ?_
    refine AW.for s.l.length (fun j (_ : Unit) => st [(1, encSl .new 1 (V.int .i64) s), (2, .int .i64 k), (3, .int .i64 j)] []) (fun k _ => True) 0 () (Nat.zero_le _) trivial
      (Weak.st (by simp -implicitDefEqProofs only [go_sem, seval, ↓reduceIte]; try rfl) (by simp -implicitDefEqProofs only [go_sem, seval, ↓reduceIte]; try rfl)) ?_
    intro j _ hj _ L7 hL7
    refine AW.seq_k fun K8 hK8 => ?_
    refine AW.seq_k fun K hK => AW.region (by kernel_rfl) ?_
    simp -implicitDefEqProofs only [go_sem, seval, ↓reduceIte]
    refine hK _ ?_
    clear hK K
    refine AW.condS (by simp -implicitDefEqProofs only [go_sem, seval, ↓reduceIte]; rfl) (fun h5 => ?_) (fun h5 => ?_)
    · have hj1 : j < s.l.length := by have := of_decide_eq_true h5; omega
      have gj := List.getElem?_eq_getElem hj1
      have hy := hin _ (List.getElem_mem hj1)
      generalize s.l[j] = y at gj hy
      refine AW.skip ?_
      simp -implicitDefEqProofs only [go_sem, seval, ↓reduceIte]
      refine hK8 _ ?_
      refine AW.seq_k fun K9 hK9 => ?_
      refine AW.block ?_
      refine AW.seq_k fun K hK => AW.regionT ⟨fun _ => .bool true, fun i => if i = 36 then .lend else .pure⟩ (by kernel_rfl) hG (by kernel_rfl) (by kernel_rfl) ?_
      simp -implicitDefEqProofs only [go_sem, seval, ↓reduceIte, gi, gj]
      refine ⟨pureK (by kernel_rfl) (by simp -implicitDefEqProofs only [go_sem, seval, ↓reduceIte]; exact lawReckons_spec G hN x y hx hy), pureK (by kernel_rfl) (by simp -implicitDefEqProofs only [go_sem, seval, ↓reduceIte]; exact lawBack_spec G hN x y [] hx hy), fun g => ⟨BorC.of [encSl .old 1 (V.int .i64) (.mk false [x, y, x])] (by kernel_rfl) ⟨?_, trivial⟩ ((lawSums_spec G hN .old (.mk false [x, y, x]) ?_).mono ?_), ?_⟩⟩
      · exact Rd.msl (g := g) (fz := 0) (c := .new) (off := 0) (f := V.int .i64) (f' := V.int .i64) (l := [x, y, x]) (by simp -implicitDefEqProofs only [go_sem, seval, ↓reduceIte]; try rfl) (fun _ => rfl) (fun x y hy => by simp [V.cells] at hy; subst hy; exact .int _ _) (fun _ => rfl) (by simp)
      · intro z hz
        simp [Sl.l] at hz
        rcases hz with rfl | rfl | rfl
        · exact hx
        · exact hy
        · exact hx
      · rintro _ _ rfl
        exact ⟨.bool _, rfl⟩
      · refine hK _ ?_
        clear hK K
        refine AW.condS (by simp -implicitDefEqProofs only [go_sem, seval, ↓reduceIte]; rfl) (fun h => ?_) (fun h => ?_)
        · cases h
        · refine AW.skip ?_
          simp -implicitDefEqProofs only [go_sem, seval, ↓reduceIte]
          refine hK9 _ ?_
          refine AW.region (by kernel_rfl) ?_
          simp -implicitDefEqProofs only [go_sem, seval, ↓reduceIte]
          refine hL7 _ ⟨hj1, (), trivial, Weak.st (by simp -implicitDefEqProofs only [go_sem, seval, ↓reduceIte]; exact congrArg _ (by rw [w64 (by omega) (by omega)]; omega)) (by simp -implicitDefEqProofs only [go_sem, seval, ↓reduceIte])⟩
    · refine AW.exit ?_
      simp -implicitDefEqProofs only [go_sem, seval, ↓reduceIte]
      refine hK6 _ ?_
      have hlp := putR_len hx
      have l1 : ¬ ((((putR x).length + 1 : Nat) : Int) > IntKind.i64.max) := by rw [show IntKind.i64.max = 9223372036854775807 from rfl]; omega
      have l2 : ¬ (((1 + (putR x).length : Nat) : Int) > IntKind.i64.max) := by rw [show IntKind.i64.max = 9223372036854775807 from rfl]; omega
      have pP : PureC Tryd.prog G 13 [V.int .i64 x] (.str (putR x)) := ⟨by kernel_rfl, by simp -implicitDefEqProofs only [go_sem, seval, ↓reduceIte]; exact (nPut_spec G hN x hx).mono fun v _ e => by rw [e]; rfl⟩
      refine AW.seq_k fun K hK => AW.regionT ⟨fun i => if i = 4 then .str (putR x) else if i = 16 then .str (putR x) else if i = 30 then .str (putR x) else if i = 44 then .str (putR x) else .bool true, fun _ => .pure⟩ (by kernel_rfl) hG (by kernel_rfl) (by kernel_rfl) ?_
      simp -implicitDefEqProofs only [go_sem, seval, ↓reduceIte, gi, l1, l2]
      refine ⟨pP, pureK (by kernel_rfl) (by simp -implicitDefEqProofs only [go_sem, seval, ↓reduceIte]; exact lawTexts_spec G hN _ x hx), pP, pureK (by kernel_rfl) (by simp -implicitDefEqProofs only [go_sem, seval, ↓reduceIte]; exact lawTexts_spec G hN _ x hx), pP, pureK (by kernel_rfl) (by simp -implicitDefEqProofs only [go_sem, seval, ↓reduceIte]; exact lawTexts_spec G hN _ x hx), pP, pureK (by kernel_rfl) (by simp -implicitDefEqProofs only [go_sem, seval, ↓reduceIte]; exact lawTexts_spec G hN _ x hx), ?_⟩
      refine hK _ ?_
      clear hK K
      refine AW.condS (by simp -implicitDefEqProofs only [go_sem, seval, ↓reduceIte]; rfl) (fun h => ?_) (fun h => ?_)
      · cases h
      · refine AW.skip ?_
        simp -implicitDefEqProofs only [go_sem, seval, ↓reduceIte]
        refine hK5 _ ?_
        refine AW.region (by kernel_rfl) ?_
        simp -implicitDefEqProofs only [go_sem, seval, ↓reduceIte]
        refine hL2 _ ⟨hk1, (), trivial, Weak.st (by simp -implicitDefEqProofs only [go_sem, seval, ↓reduceIte]; exact congrArg _ (by rw [w64 (by omega) (by omega)]; omega)) (by simp -implicitDefEqProofs only [go_sem, seval, ↓reduceIte])⟩
  · refine AW.exit ?_
    simp -implicitDefEqProofs only [go_sem, seval, ↓reduceIte]
    refine hK1 _ ?_
    refine AW.seq_k fun K hK => AW.region (by kernel_rfl) ?_
    simp -implicitDefEqProofs only [go_sem, seval, ↓reduceIte]
    intro g111
    refine hK _ ?_
    clear hK K
    refine AW.weak (Weak.stF (fun o => o == 111) (l := [(4, encSl .new 1 V.str tx)]) (m := []) ?_ trivial) ?_
    · simp -implicitDefEqProofs only [go_sem, seval, ↓reduceIte]
      exact Fz.sl (f := V.str) (l := txL) (g := g111) (fz := 0) (c := .new) rfl (by simp -implicitDefEqProofs only [go_sem, seval, ↓reduceIte]; try rfl) (fun _ => rfl)
    have hlt := tx_len
    generalize tx = s at hlt
    refine AW.seq_k fun K12 hK12 => ?_
    refine AW.seq_k fun K hK => AW.region (by kernel_rfl) ?_
    simp -implicitDefEqProofs only [go_sem, seval, ↓reduceIte]
    refine hK _ ?_
    clear hK K
    refine AW.block ?_
    refine AW.for s.l.length (fun k (_ : Unit) => st [(4, encSl .new 1 V.str s), (5, .int .i64 k)] []) (fun k _ => True) 0 () (Nat.zero_le _) trivial
      (Weak.st (by simp -implicitDefEqProofs only [go_sem, seval, ↓reduceIte]; try rfl) (by simp -implicitDefEqProofs only [go_sem, seval, ↓reduceIte]; try rfl)) ?_
    intro k _ hk _ L2 hL2
    refine AW.seq_k fun K3 hK3 => ?_
    refine AW.seq_k fun K hK => AW.region (by kernel_rfl) ?_
    simp -implicitDefEqProofs only [go_sem, seval, ↓reduceIte]
    refine hK _ ?_
    clear hK K
    refine AW.condS (by simp -implicitDefEqProofs only [go_sem, seval, ↓reduceIte]; rfl) (fun h4 => ?_) (fun h4 => ?_)
    · have hk1 : k < s.l.length := by have := of_decide_eq_true h4; omega
      have gi := List.getElem?_eq_getElem hk1
      generalize s.l[k] = t at gi
      have hkK : InK .i64 (k : Int) := (inK_iff _).2 (by omega)
      refine AW.skip ?_
      simp -implicitDefEqProofs only [go_sem, seval, ↓reduceIte]
      refine hK3 _ ?_
      refine AW.seq_k fun K5 hK5 => ?_
      refine AW.block ?_
      refine AW.seq_k fun K hK => AW.region (by kernel_rfl) ?_
      simp -implicitDefEqProofs only [go_sem, seval, ↓reduceIte, gi]
      refine CallA.pure hG (by kernel_rfl) ?_
      simp -implicitDefEqProofs only [go_sem, seval, ↓reduceIte]
      refine (lawTexts_spec G hN t k hkK).mono ?_
      rintro _ _ rfl
      simp -implicitDefEqProofs only [go_sem, seval, ↓reduceIte, gi]
      refine CallA.pure hG (by kernel_rfl) ?_
      simp -implicitDefEqProofs only [go_sem, seval, ↓reduceIte]
      refine (lawBack_spec G hN k (-3) t hkK (by decide)).mono ?_
      rintro _ _ rfl
      simp -implicitDefEqProofs only [go_sem, seval, ↓reduceIte]
      refine hK _ ?_
      clear hK K
      refine AW.condS (by simp -implicitDefEqProofs only [go_sem, seval, ↓reduceIte]; rfl) (fun h => ?_) (fun h => ?_)
      · cases h
      · refine AW.skip ?_
        simp -implicitDefEqProofs only [go_sem, seval, ↓reduceIte]
        refine hK5 _ ?_
        refine AW.region (by kernel_rfl) ?_
        simp -implicitDefEqProofs only [go_sem, seval, ↓reduceIte]
        refine hL2 _ ⟨hk1, (), trivial, Weak.st (by simp -implicitDefEqProofs only [go_sem, seval, ↓reduceIte]; exact congrArg _ (by rw [w64 (by omega) (by omega)]; omega)) (by simp -implicitDefEqProofs only [go_sem, seval, ↓reduceIte])⟩
    · refine AW.exit ?_
      simp -implicitDefEqProofs only [go_sem, seval, ↓reduceIte]
      refine hK12 _ ?_
      refine AW.seq_k fun K hK => AW.region (by kernel_rfl) ?_
      simp -implicitDefEqProofs only [go_sem, seval, ↓reduceIte]
      refine CallA.pure hG (by kernel_rfl) ?_
      simp -implicitDefEqProofs only [go_sem, seval, ↓reduceIte]
      refine (show Spec Tryd.prog G 3 [V.nils] hNone (fun v _ => v = .bool true) from lawSums_spec G hN .new .nil (fun x hx => by cases hx)).mono ?_
      rintro _ _ rfl
      simp -implicitDefEqProofs only [go_sem, seval, ↓reduceIte]
      refine CallA.pure hG (by kernel_rfl) ?_
      simp -implicitDefEqProofs only [go_sem, seval, ↓reduceIte]
      refine (works_spec G hN).mono ?_
      rintro _ _ rfl
      simp -implicitDefEqProofs only [go_sem, seval, ↓reduceIte]
      refine hK _ ?_
      clear hK K
      refine AW.ret ?_
      simp -implicitDefEqProofs only [go_sem, seval, ↓reduceIte]
      refine endK_some ?_
      rfl
end Go.Hs
end

section
namespace Go.Proofs.YtkljnnbncaolaaaDoor
open Go.RowKit Go.Hs
set_option maxRecDepth 100000
/-- What the statements of this seat list. -/
def laidAll : List (String × DataW Unit) := [("math/bits.deBruijn32tab", Rows.laid_math_bits_deBruijn32tab), ("math/bits.deBruijn64tab", Rows.laid_math_bits_deBruijn64tab), ("internal/strconv.uint64pow10", Rows.laid_internal_strconv_uint64pow10), ("strconv.ErrRange", Rows.laid_strconv_ErrRange), ("strconv.ErrSyntax", Rows.laid_strconv_ErrSyntax)]
/-! ### A world that meets it -/
noncomputable def low : Nat := (World.holding Tryd.prog default ⟨#[], #[], []⟩).heap.size
def b32 : List Int := [0, 1, 28, 2, 29, 14, 24, 3, 30, 22, 20, 15, 25, 17, 4, 8, 31, 27, 13, 23, 21, 19, 16, 7, 26, 12, 18, 6, 11, 5, 10, 9]
def b64 : List Int := [0, 1, 56, 2, 57, 49, 28, 3, 61, 58, 42, 50, 38, 29, 17, 4, 62, 47, 59, 36, 45, 43, 51, 22, 53, 39, 33, 30, 24, 18, 12, 5, 63, 55, 48, 27, 60, 41, 37, 16, 46, 35, 44, 21, 52, 32, 23, 11, 54, 26, 40, 15, 34, 20, 31, 10, 25, 14, 19, 9, 13, 8, 7, 6]
def errR : ByteArray := { data := #[118, 97, 108, 117, 101, 32, 111, 117, 116, 32, 111, 102, 32, 114, 97, 110, 103, 101] }
def errS : ByteArray := { data := #[105, 110, 118, 97, 108, 105, 100, 32, 115, 121, 110, 116, 97, 120] }
def withCells (cs : Array Value) : Obj → Obj
  | .cells _ t frozen => .cells cs t frozen
  | o => o
noncomputable def laidWorld (os : Os) : World :=
  let w0 := World.holding Tryd.prog os ⟨#[.cells #[.string errR] 111, .cells #[.string errS] 111], #[], []⟩
  { w0 with heap := ((((w0.heap.modify 0 (withCells #[.iface 109 (.pointer (some ⟨low, 0, none⟩))])).modify 1 (withCells #[.iface 109 (.pointer (some ⟨low + 1, 0, none⟩))])).modify 2
      (withCells (Lib.pow10Tab.map (Value.int .u64)).toArray)).modify 3 (withCells (b32.map (Value.int .u8)).toArray)).modify 4 (withCells (b64.map (Value.int .u8)).toArray) }
theorem laidWorld_met (os : Os) (args : Array Value) : laidMet Tryd.prog laidAll ((laidWorld os).forCall (fun _ _ => 0) ⟨#[], args, []⟩).memory :=
  laidMet_of_run' 8 (by kernel_rfl) (by kernel_rfl)
end Go.Proofs.YtkljnnbncaolaaaDoor
end

section
namespace Go.Proofs.YtkljnnbncaolaaaDoor
open Go.RowKit Go.Hs
set_option maxRecDepth 100000
theorem laidMet_tail {P : Program} {W : World} {x : String × DataW Unit} {r : List (String × DataW Unit)} (h : laidMet P (x :: r) W) : laidMet P r W := by
  obtain ⟨n, d⟩ := x
  obtain ⟨ps, ⟨g0, t0, cs0, f0, p0, q0, hg0, ht0, hv0, hd0, hq, e0⟩, hnd, hrows⟩ := h
  subst e0
  exact ⟨q0, hq, (List.nodup_append.1 hnd).2.1, fun b off hm => hrows b off (List.mem_append.2 (.inr hm))⟩
/-- What is known of the package-level variables. -/
noncomputable def gN : Nat → V := fun g => if g = 0 then .view .old (.iface 109 (.view .old (.agg []))) else if g = 2 then .view .old (.agg (Lib.pow10Tab.map (V.int .u64))) else .top
theorem recolL_ints (f : Col → Col) : ∀ l : List Int, V.recolL f (l.map (V.int .u64)) = l.map (V.int .u64)
  | [] => rfl
  | x :: r => by simp only [List.map_cons, V.recolL]; rw [recolL_ints f r]; rfl
theorem gN_ok : GNum gN where
  ok := fun g => by
    unfold gN
    split
    · exact ⟨rfl, .view _ _ fun x hx => by simp [V.cells] at hx; subst hx; exact .iface _ _ (.view _ _ fun x hx => by simp [V.cells] at hx)⟩
    · split
      · refine ⟨by simp only [V.recol, Col.ent, recolL_ints], .view _ _ fun x hx => ?_⟩
        obtain ⟨n, _, rfl⟩ := List.mem_map.1 hx
        exact .int _ _
      · exact ⟨rfl, .top⟩
  er := ⟨_, _, _, rfl⟩
  tab := ⟨_, rfl⟩
theorem gER : Tryd.prog.globalNamed "strconv.ErrRange" = some 0 := by kernel_rfl
theorem gERType : (Tryd.prog.globals[0]?).map (·.type) = some 39 := by kernel_rfl
theorem cells111 : Tryd.prog.cellsOf 111 = 1 := by kernel_rfl
theorem cells9 : Tryd.prog.cellsOf 9 = 1 := by kernel_rfl
theorem star : "*" ++ "errors.errorString" = "*errors.errorString" := by decide
theorem row109 (u : TypeId) (h : Tryd.prog.typeName? 3 u = some "*errors.errorString") : u = 109 :=
  typeName_ptr_named (nm := "errors.errorString") (by rw [star]; kernel_rfl) (by kernel_rfl) (by decide) u (by rw [star]; exact h)
theorem gTab : Tryd.prog.globalNamed "internal/strconv.uint64pow10" = some 2 := by kernel_rfl
theorem gTabType : ∃ t n, (Tryd.prog.globals[2]?).map (·.type) = some t ∧ Tryd.prog.underlying t = some (.array n 53) ∧ Tryd.prog.cellsOf t = n ∧ n = 20 := by
  refine ⟨(((Tryd.prog.globals[2]?).map (·.type)).getD 0), 20, by kernel_rfl, by kernel_rfl, by kernel_rfl, rfl⟩
theorem laid_tab {W : World} (h : laidMet Tryd.prog laidAll W) : Lib.TabIs Tryd.prog W "internal/strconv.uint64pow10" .u64 Lib.pow10Tab := by
  obtain ⟨t, n, h1, h2, h3, rfl⟩ := gTabType
  have e : (Rows.laid_internal_strconv_uint64pow10 : DataW Unit) = Lib.tabData .u64 Lib.pow10Tab := by rfl
  have h4 := laidMet_tail (laidMet_tail h)
  rw [e] at h4
  exact Lib.tabIs_of_head gTab h1 h2 Tryd.underlying53 (by kernel_rfl) h3 h4
theorem laid_err {W : World} (h : laidMet Tryd.prog laidAll W) : ∃ b off, W.cell? ⟨0, 0, none⟩ = some (.iface 109 (.pointer (some ⟨b, off, none⟩))) := by
  obtain ⟨a, s, h1, h2, _, _⟩ := laid_sentinel (laidMet_tail (laidMet_tail (laidMet_tail h))) gER gERType Tryd.underlying39 row109 Tryd.underlying109 Tryd.underlying111 rfl rfl Tryd.underlying9 cells111 cells9
  have h0 := World.var?_cell gER h1 0
  have hs := World.cell?_spot h2
  obtain ⟨b, off, sp⟩ := a
  have hs : sp = none := hs
  subst hs
  exact ⟨b, off, by simpa using h0⟩
/-- **From the statement's condition to what the contracts ask.** -/
theorem laid_G {W : World} (h : laidMet Tryd.prog laidAll W) : ∀ g, RelG (Cx.ofW W) g (gN g) := by
  intro g
  unfold gN
  split
  · rename_i hg
    subst hg
    obtain ⟨b, off, h1⟩ := laid_err h
    refine ⟨?_, trivial⟩
    refine .view .old _ 0 0 (fun _ => .iface 109 (.pointer (some ⟨b, off, none⟩))) (fun i hi => ?_) (fun i hi => ?_)
    · have : i = 0 := by simpa [V.cells] using hi
      subst this
      refine ⟨by show (W.cell? _).isSome = true; rw [h1]; rfl, World.block_lt_of_cell? _ _ h1, h1, rfl⟩
    · have : i = 0 := by simpa [V.cells] using hi
      subst this
      exact .iface _ _ _ (.view .old _ b off (fun _ => .nilIface) (fun i hi => by simp [V.cells] at hi) (fun i hi => by simp [V.cells] at hi))
  · split
    · rename_i hg
      subst hg
      have ht := laid_tab h
      have hc : ∀ i (hi : i < Lib.pow10Tab.length), W.cell? ⟨2, i, none⟩ = some (.int .u64 (Lib.pow10Tab.getD i 0)) := fun i hi => ht.cell gTab i hi
      have hlen : Lib.pow10Tab.length = 20 := Lib.pow10Tab_length
      have hlt : 2 < W.heap.size := World.block_lt_of_cell? _ _ (hc 0 (by omega))
      have hv : W.var? Tryd.prog "internal/strconv.uint64pow10" = some (Lib.pow10Tab.map fun z => Value.int .u64 z).toArray := ht
      refine ⟨?_, ?_⟩
      · refine .view .old _ 2 0 (fun i => .int .u64 (Lib.pow10Tab.getD i 0)) (fun i hi => ?_) (fun i hi => ?_)
        · have hi : i < Lib.pow10Tab.length := by simpa [V.cells] using hi
          rw [Nat.zero_add]
          exact ⟨by show (W.cell? _).isSome = true; rw [hc i hi]; rfl, hlt, hc i hi, rfl⟩
        · have hi' : i < Lib.pow10Tab.length := by simpa [V.cells] using hi
          have key : ∀ v, v = V.int .u64 (Lib.pow10Tab.getD i 0) → Rel (Cx.ofW W) (Value.int .u64 (Lib.pow10Tab.getD i 0)) v := fun v e => by rw [e]; exact .int _ _
          exact key _ (by simp [V.cells, List.getD, hi'])
      · refine ⟨hlt, ?_⟩
        unfold World.var? at hv
        rw [gTab] at hv
        have hv : (match W.heap[2]? with | some (Obj.cells cs _ _) => some cs | _ => none) = some (Lib.pow10Tab.map fun z => Value.int .u64 z).toArray := hv
        split at hv
        · rename_i cs t fr hh
          cases hv
          exact ⟨_, t, fr, hh, by simp⟩
        · cases hv
    · exact ⟨.top _, trivial⟩
end Go.Proofs.YtkljnnbncaolaaaDoor
end

section
namespace Go.Proofs.YtkljnnbncaolaaaDoor
open Go.RowKit Go.Hs Go.ChangeShapes Go.WideShapes Go.ChangeAt
open Go.ChangeMaps (open_string shut_string)
set_option maxRecDepth 100000
abbrev NK := { n : Int // InK .i64 n }
theorem inK_of_wf {k : IntKind} {n : Int} (h : (Lit.int k n).wf = true) : InK k n := by
  simpa [Lit.wf, InK] using h
theorem reads_nk (W : World) {t : TypeId} (ht : Tryd.prog.underlying t = some (.int .i64)) (hc : Tryd.prog.cellsOf t = 1) : Reads Tryd.prog W t 1 (fun n : NK => [V.int .i64 n.1]) := by
  refine ⟨hc, fun _ => rfl, fun enc held fuel cs x h => ?_⟩
  obtain ⟨n, rfl, _, hw⟩ := DataW.trod_int ht h
  exact ⟨⟨n, inK_of_wf hw⟩, RelC.cons rfl (.int _ _) RelC.nil⟩
theorem reads_list (W : World) : Reads Tryd.prog W 22 1 (fun s : Sl NK => [encSl .any 1 (fun n : NK => V.int .i64 n.1) s]) :=
  Reads.slice Tryd.underlying22 (by kernel_rfl) (by decide) (reads_nk W Tryd.underlying2 (by kernel_rfl))
def unK : Sl NK → Sl Int
  | .nil => .nil
  | .mk b l => .mk b (l.map (·.1))
theorem unK_in (s : Sl NK) : ∀ x ∈ (unK s).l, InK .i64 x := by
  cases s with
  | nil => intro x hx; cases hx
  | mk b l =>
    intro x hx
    obtain ⟨y, _, rfl⟩ := List.mem_map.1 hx
    exact y.2
theorem unK_enc (c : Col) (s : Sl NK) : encSl c 1 (fun n : NK => V.int .i64 n.1) s = encSl c 1 (V.int .i64) (unK s) := by
  cases s with
  | nil => rfl
  | mk b l => simp only [encSl, unK, List.map_map]; rfl
variable {W : World} {H : Type} {enc : TypeId × Value → H} {b0 : Nat} {v : Value} {d : DataW H} {ps : List MemPlace}
theorem argI (hv : Value.okWide Tryd.prog W .any b0 2 v) (h : DataW.Trod enc Tryd.prog W 0 (fun _ => true) true 2 v d ps) : ∃ x : Int, InK .i64 x ∧ Rel (Cx.ofW W) v (.int .i64 x) := by
  obtain ⟨n, rfl, _, _, hw⟩ := open_int Tryd.underlying2 hv h
  exact ⟨n, inK_of_wf hw, .int _ _⟩
theorem argS (hv : Value.okWide Tryd.prog W .any b0 9 v) (h : DataW.Trod enc Tryd.prog W 0 (fun _ => true) true 9 v d ps) : ∃ x : List UInt8, Rel (Cx.ofW W) v (.str x) := by
  obtain ⟨s, rfl, _, _, _⟩ := open_string Tryd.underlying9 hv h
  exact ⟨_, .str s _ rfl⟩
theorem argL (hv : Value.okWide Tryd.prog W .any b0 22 v) (h : DataW.Trod enc Tryd.prog W 0 (fun _ => true) true 22 v d ps) : ∃ x : Sl Int, (∀ y ∈ x.l, InK .i64 y) ∧ Rel (Cx.ofW W) v (encSl .old 1 (V.int .i64) x) := by
  obtain ⟨fuel, h⟩ := h
  obtain ⟨x, hx⟩ := (reads_list W).2.2 enc true fuel _ _ h
  have key : Rel (Cx.ofW W) v (encSl .any 1 (V.int .i64) (unK x)) := by
    rw [← unK_enc]
    unfold Value.okWide at hv
    rw [Tryd.underlying22] at hv
    have hc : v.cells = #[v] := by
      unfold Cell.okWide Cell.ok at hv
      rw [Tryd.underlying22] at hv
      cases v <;> first | rfl | (simp at hv)
    rw [hc] at hx
    exact hx.rel 0 (by simp) (by simp)
  have h2 := key.ofW_old
  refine ⟨unK x, unK_in x, ?_⟩
  simpa only [go_sem, List.map_cons, List.map_nil] using h2
theorem own : ownKnob Tryd.prog.godebug = none := by kernel_rfl
theorem laidOut : laidOutB Tryd.prog = true := by kernel_rfl
end Go.Proofs.YtkljnnbncaolaaaDoor
end

section
namespace Go.Proofs.YtkljnnbncaolaaaDoor.numKnown
open Go.ChangeShapes Go.WideShapes Go.ChangeAt Go.RowKit Go.Hs
set_option linter.unusedVariables false
set_option maxRecDepth 100000
theorem lifted (os : Os) (started : os.Started) (H : Type) (enc : TypeId × Value → H) :
    ReturnsInHanded {} Tryd.checked os 7 .any (fun w args => (Rows.numKnownSpec.pre enc Tryd.prog Tryd.f7 Rows.numKnownRow.domain false w args ∧ laidMet Tryd.prog laidAll w) ∧ sizedMet enc Tryd.prog Tryd.f7 (OpenSpec.ofChange Rows.numKnownSpec) false w args)
      (Rows.numKnownSpec.post enc Tryd.prog Tryd.f7 false true false false) := by
  refine returnsInHanded_of_change_and (C := Tryd.checked) (X := fun w _ => laidMet Tryd.prog laidAll w) (fun _ _ _ hh h => h.of_heap hh) own started (by kernel_rfl) Tryd.func7
    (ChangeSpec.witness_at (enc := enc) (C := Tryd.checked) (os := os) (X := fun w _ => laidMet Tryd.prog laidAll w) false (laidWorld os) #[] 8 rfl (by kernel_rfl) (by kernel_rfl) (by kernel_rfl) (by kernel_rfl) (by kernel_rfl) (laidWorld_met os _)) ?_
  intro W base args ds gs before hval0 hW hcnd0 _ hL _
  have hval : ∀ (j : Nat) t v, Tryd.f7.params[j]? = some t → args[j]? = some v → Value.okWide Tryd.prog W .any base t v := hval0
  have hW' := hW
  obtain ⟨p, q, hA0, hV, rfl, hfz, hnd⟩ := hW
  have hA : DataW.TrodAll enc Tryd.prog W 0 (fun _ => true) true Tryd.f7.params.toList args.toList ds p := hA0
  rw [Tryd.params7] at hA hval
  obtain ⟨hargs, rfl, rfl⟩ := trodAll_nil hA
  obtain rfl : args = #[] := by cases args; simp_all
  obtain ⟨rfl, rfl⟩ := trodVars_none hV
  have hR : RelA (Cx.ofW W) #[] [] := by
    exact ⟨rfl, fun i k1 k2 => absurd k1 (Nat.not_lt_zero i)⟩
  refine (Spec.toCallsG (lawKnown_spec gN gN_ok) (laid_G hL) hR).mono ?_
  rintro e W' ⟨c, v, H', Y, rfl, hr, rfl, hB⟩
  obtain rfl := hr.bool_inv
  refine ⟨_, rfl, _, _, _, [], [], [], hW', ?_, ?_, rfl, hB.frame _, fun h => by cases h⟩
  · exact trodAll_cons_mk (shut_bool Tryd.underlying4 _) trodAll_mk0
  · exact trodAll_mk0
theorem over : Rows.numKnownRow.holds Tryd.pinned (OpenSpec.ofChange Rows.numKnownSpec) :=
  OpenClaim.holds_of_wide 7 Tryd.f7 rfl rfl rfl rfl rfl rfl rfl ⟨rfl, rfl, rfl, rfl, rfl⟩ rfl rfl rfl rfl rfl (by kernel_rfl) Tryd.func7 (by kernel_rfl)
    (of_decide_eq_true (by kernel_rfl)) (by unfold Func.isWrapper; first | (rw [if_pos (by decide +kernel)]; kernel_rfl) | (rw [if_neg (by decide +kernel)]; exact ⟨rfl, rfl⟩))
    (fun os started H enc _ => lifted os started H enc)
theorem wants (j : Nat) (t : TypeId) (h : Tryd.f7.params[j]? = some t) : Tryd.prog.wantsStandIn t = false := by
  rw [Tryd.params7] at h
  cases h
/-- The statement. -/
theorem proved : Rows.NumKnownCardSaid :=
  Claim7.holds_tied_plain_at .later [] [.data, .data, .data, .sentinel, .sentinel] true (true, "877afd20c642522f06f1a5d75ccce7ae95b6eb6e8d89feee8e41f62822dfb5f5") true
    over (fun _ h => by cases h) (by kernel_rfl) (fun _ h => by cases h) numKnown_row_tie rfl ⟨rfl, rfl⟩ (by kernel_rfl) rfl
    (fun f fn hf hfn => by
      obtain rfl : f = 7 := Option.some.inj ((show Tryd.prog.funcNamed "hopscotch/hopscotchlaw06.NumKnown" = some 7 by kernel_rfl).symm.trans hf) |>.symm
      obtain rfl : fn = Tryd.f7 := (Option.some.inj (Tryd.func7.symm.trans hfn)).symm
      exact ⟨by kernel_rfl, fun j t ht => wants j t ht⟩)
    (by kernel_rfl)
#print axioms proved
end Go.Proofs.YtkljnnbncaolaaaDoor.numKnown
end
