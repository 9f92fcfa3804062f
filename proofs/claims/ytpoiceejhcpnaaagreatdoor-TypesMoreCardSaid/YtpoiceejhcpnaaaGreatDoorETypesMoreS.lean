/- For every input ETypesMoreS returns true, and its arguments read as before. No condition. -/
/- Part 41 of the proof of a statement of seat YtpoiceejhcpnaaaGreatDoor: HsETypK2 HsETypKinds HsETypOf HsETypW HsTypLaw2 HsETypL2 HsTypLaw3 HsETypM HsETypM1 HsETypM4 HsEExpLaid HsEExpLaidG HsEExpArgs HsETypesMoreS. -/
import Derived.Test.YtpoiceejhcpnaaaGreatDoorPart39
import Derived.Test.YtpoiceejhcpnaaaGreatDoorPart40
import Derived.Test.YtpoiceejhcpnaaaGreatDoorPart38
import Derived.Test.YtpoiceejhcpnaaaGreatDoorPart29
import Derived.Test.YtpoiceejhcpnaaaGreatDoorPart31
import Derived.Test.YtpoiceejhcpnaaaGreatDoorRows
import Derived.ProofKit
import Derived.OpenShut
import Derived.LaidLaws
import Derived.Stop.LaidErr
import Derived.Lib.LaidTab
import Derived.Handed
import Derived.ChangeMaps5
import Derived.Test.YtpoiceejhcpnaaaGreatDoorTie
import Derived.Test.YtpoiceejhcpnaaaGreatDoorCards
set_option linter.unusedSimpArgs false
set_option linter.unusedVariables false
section
namespace Go.Hs
open Go.Proofs
set_option maxRecDepth 10000
def eq3 (a b c a' b' c' : Int) : Bool := decide (a = a' ∧ b = b' ∧ c = c')
theorem eqCs_3 (a b c a' b' c' : Int) : eqCs [.int .u8 a, .int .u8 b, .int .u8 c] [.int .u8 a', .int .u8 b', .int .u8 c'] = some (eq3 a b c a' b' c') := by
  unfold eq3
  simp only [eqCs, eqC, if_true]
  by_cases h1 : a = a'
  · by_cases h2 : b = b'
    · by_cases h3 : c = c'
      · simp [h1, h2, h3]
      · have : (c == c') = false := by simpa using h3
        simp [h1, h2, h3, this]
    · have : (b == b') = false := by simpa using h2
      simp [h1, this, h2]
  · have : (a == a') = false := by simpa using h1
    simp [this, h1]
def knC (v : V) : List V := ruleC ++ [v]
theorem knC_len (v : V) : (knC v).length = 93 := by rw [knC, List.length_append]; rfl
theorem knC_names (v : V) : (knC v)[92]? = some v := by
  rw [knC, List.getElem?_append_right (by decide)]; rfl
theorem ruleC_len : ruleC.length = 92 := rfl
theorem knC_take (v : V) : (knC v).take 92 = ruleC := by rw [knC, List.take_append_of_le_length (Nat.le_refl 92)]; rfl
theorem ruleC_recol (f : Col → Col) : ruleC.map (V.recol f) = ruleC := rfl
theorem knC_recol (f : Col → Col) (v : V) : (knC v).map (V.recol f) = knC (v.recol f) := by
  rw [knC, List.map_append, ruleC_recol]; rfl
theorem tKind_spec (G : Nat → V) (hG : GOk G) (c1 c2 : Col) (names : Sl (List UInt8)) (hnl : names.l.length < 1000000) (n : XN) (ks : Sl Int) (hn : PlOk ks.l.length n) (hkl : ks.l.length < 1000000) (hks : ∀ y ∈ ks.l, y = 1 ∨ y = 2) :
    Spec Tryz.prog G 51 [.agg (knC (encSl c1 1 V.str names)), encXN n, encSl c2 1 (V.int .u8) ks] hNone (fun v _ => v = .int .u8 (kindN names.l n ks.l)) := by
  refine Spec.of_code' 0 71 [.tmp 6] Tryz.func51 rfl rfl rfl rfl fun X => ?_
  have hP : kindN names.l n ks.l = kd n.op (names.l.contains n.name) (plc ks.l n.a) (plc ks.l n.b) (plc ks.l n.c) := rfl
  generalize kindN names.l n ks.l = res at hP ⊢
  simp only [encXN_K]
  refine AW.seq_k fun K hK => AW.region (by kernel_rfl) ?_
  simp -implicitDefEqProofs only [go_sem, seval, ↓reduceIte, knC_len]
  intro g3 g4 g5
  refine hK _ ?_
  clear hK K
  refine AW.seqJ (fun (_ : Unit) => st [(3, .ptr 3 g3 0), (4, .ptr 4 g4 0), (5, .ptr 5 g5 0)] [(3, .cells .new g3 0 (knC (encSl c1 1 V.str names))), (4, .cells .new g4 0 [.int .u8 n.op, .int .i64 n.num, .str n.name, .int .i64 n.a, .int .i64 n.b, .int .i64 n.c]), (5, .cells .new g5 0 [encSl c2 1 (V.int .u8) ks])])
    (fun _ => n.op = 2 → names.l.contains n.name = true) (fun K1 hK1 => ?_) ?_
  · by_cases ho : n.op = 2
    · have e1 : (n.op == 2) = true := by simpa using ho
      refine AW.seq_k fun K hK => AW.region (by kernel_rfl) ?_
      simp -implicitDefEqProofs only [go_sem, seval, ↓reduceIte, e1, knC_names]
      refine CallA.pure hG (by kernel_rfl) ?_
      simp -implicitDefEqProofs only [go_sem, seval, ↓reduceIte]
      refine (sContains_spec G hG _ n.name names hnl).mono ?_
      rintro _ _ rfl
      simp -implicitDefEqProofs only [go_sem, seval, ↓reduceIte]
      refine hK _ ?_
      clear hK K
      cases hc : names.l.contains n.name with
      | true =>
        refine AW.condS (by simp -implicitDefEqProofs only [go_sem, seval, ↓reduceIte]; rfl) (fun h21 => ?_) (fun h21 => ?_)
        · cases h21
        refine AW.skip ?_
        simp -implicitDefEqProofs only [go_sem, seval, ↓reduceIte]
        exact hK1 _ () (fun _ => hc) (Weak.st (by simp -implicitDefEqProofs only [go_sem, seval, ↓reduceIte]) (by simp -implicitDefEqProofs only [go_sem, seval, ↓reduceIte]))
      | false =>
        refine AW.condS (by simp -implicitDefEqProofs only [go_sem, seval, ↓reduceIte]; rfl) (fun h21 => ?_) (fun h21 => ?_)
        · refine AW.seq_k fun K hK => AW.region (by kernel_rfl) ?_
          simp -implicitDefEqProofs only [go_sem, seval, ↓reduceIte]
          refine hK _ ?_
          clear hK K
          refine AW.ret ?_
          simp -implicitDefEqProofs only [go_sem, seval, ↓reduceIte]
          refine endK_some ?_
          rw [hP, hc, ho]; rfl
        · cases h21
    · have e1 : (n.op == 2) = false := by simpa using ho
      refine AW.seq_k fun K hK => AW.region (by kernel_rfl) ?_
      simp -implicitDefEqProofs only [go_sem, seval, ↓reduceIte, e1]
      refine hK _ ?_
      clear hK K
      refine AW.condS (by simp -implicitDefEqProofs only [go_sem, seval, ↓reduceIte]; rfl) (fun h21 => ?_) (fun h21 => ?_)
      · cases h21
      refine AW.skip ?_
      simp -implicitDefEqProofs only [go_sem, seval, ↓reduceIte]
      exact hK1 _ () (fun h => absurd h ho) (Weak.st (by simp -implicitDefEqProofs only [go_sem, seval, ↓reduceIte]) (by simp -implicitDefEqProofs only [go_sem, seval, ↓reduceIte]))
  rintro _ hnm
  refine AW.seq_k fun K hK => AW.region (by kernel_rfl) ?_
  simp -implicitDefEqProofs only [go_sem, seval, ↓reduceIte]
  refine hK _ ?_
  clear hK K
  refine AW.weak (Weak.stF (fun o => o == 3 || o == 4 || o == 5) (l := [(3, .view .new (.agg (knC (encSl c1 1 V.str names)))), (4, .view .new (.agg [.int .u8 n.op, .int .i64 n.num, .str n.name, .int .i64 n.a, .int .i64 n.b, .int .i64 n.c])), (7, .func (.func 68) [] [.view .new (encSl c2 1 (V.int .u8) ks)])]) (m := []) ?_ trivial) ?_
  · simp -implicitDefEqProofs only [go_sem, seval, ↓reduceIte]
    refine ⟨?_, ?_, ?_⟩
    · exact Fz.ptr (v := .agg (knC (encSl c1 1 V.str names))) (c := .new) (fz := 0) rfl (by simp -implicitDefEqProofs only [go_sem, seval, ↓reduceIte]; try rfl)
    · exact Fz.ptr (v := .agg [.int .u8 n.op, .int .i64 n.num, .str n.name, .int .i64 n.a, .int .i64 n.b, .int .i64 n.c]) (c := .new) (fz := 0) rfl (by simp -implicitDefEqProofs only [go_sem, seval, ↓reduceIte]; try rfl)
    · exact Fz.func ⟨Fz.ptr (v := encSl c2 1 (V.int .u8) ks) (c := .new) (fz := 0) rfl (by simp -implicitDefEqProofs only [go_sem, seval, ↓reduceIte]; try rfl), trivial⟩
  have pc : ∀ i : Int, (i < 0 ∨ 0 ≤ i ∧ i < ks.l.length) → PureC Tryz.prog G 68 [.int .i64 i, .view .new (encSl c2 1 (V.int .u8) ks)] (.int .u8 (plc ks.l i)) := fun i h => ⟨by kernel_rfl, by
    simp -implicitDefEqProofs only [go_sem, seval, ↓reduceIte]
    refine (tAt_spec G hG _ ks hkl i h).mono ?_
    rintro _ _ rfl
    rfl⟩
  obtain ⟨hw, ha1, hb1, hc1, ha0, hb0, hc0⟩ := hn
  have hra : n.a < 0 ∨ 0 ≤ n.a ∧ n.a < ks.l.length := by
    by_cases h : 0 < partsOf n.op
    · exact .inr (ha1 h)
    · exact .inl (by rw [ha0 h]; decide)
  have hrb : n.b < 0 ∨ 0 ≤ n.b ∧ n.b < ks.l.length := by
    by_cases h : 1 < partsOf n.op
    · exact .inr (hb1 h)
    · exact .inl (by rw [hb0 h]; decide)
  have hrc : n.c < 0 ∨ 0 ≤ n.c ∧ n.c < ks.l.length := by
    by_cases h : 2 < partsOf n.op
    · exact .inr (hc1 h)
    · exact .inl (by rw [hc0 h]; decide)
  have hor := well_range hw
  obtain ⟨op, hop⟩ : ∃ op : Nat, n.op = op := ⟨n.op.toNat, by omega⟩
  have hop1 : op < 23 := by omega
  have hop2 : n.op < 23 := by omega
  have hop0 : 0 ≤ n.op := by omega
  have hopn : n.op.toNat = op := by omega
  have hru := ruleC_get op hop1
  have hrl : op * 4 + 4 ≤ 92 := by omega
  refine AW.seq_k fun K hK => AW.regionT ⟨fun i => if i = 8 then .int .u8 (plc ks.l n.a) else if i = 12 then .int .u8 (plc ks.l n.b) else if i = 16 then .int .u8 (plc ks.l n.c) else .top, fun i => if i = 1 then .lend else if i = 4 then .lend else if i = 7 then .lend else if i = 11 then .lend else if i = 15 then .lend else .pure⟩ (by kernel_rfl) hG (by kernel_rfl) (by kernel_rfl) ?_
  simp -implicitDefEqProofs only [go_sem, seval, ↓reduceIte, knC_take, knC_len, show (92:Nat) ≤ 93 from by decide, ruleC_len, hru, hop2, hop0, hopn, hrl]
  refine ⟨pc _ hra, pc _ hrb, pc _ hrc, ?_⟩
  intro g8 g9
  refine hK _ ?_
  clear hK K
  have hpl : ∀ i : Int, (0 ≤ i ∧ i < ks.l.length) → plc ks.l i = 1 ∨ plc ks.l i = 2 := by
    intro i hi
    unfold plc
    rw [if_neg (by omega)]
    obtain ⟨m, rfl⟩ : ∃ m : Nat, i = m := ⟨i.toNat, by omega⟩
    rw [Int.toNat_natCast, List.getD_eq_getElem?_getD, List.getElem?_eq_getElem (by omega)]
    exact hks _ (List.getElem_mem _)
  have hva : 0 < partsOf n.op → plc ks.l n.a = 1 ∨ plc ks.l n.a = 2 := fun h => hpl _ (ha1 h)
  have hvb : 1 < partsOf n.op → plc ks.l n.b = 1 ∨ plc ks.l n.b = 2 := fun h => hpl _ (hb1 h)
  have hvc : 2 < partsOf n.op → plc ks.l n.c = 1 ∨ plc ks.l n.c = 2 := fun h => hpl _ (hc1 h)
  have hza : ¬ 0 < partsOf n.op → plc ks.l n.a = 0 := fun h => by rw [ha0 h]; rfl
  have hzb : ¬ 1 < partsOf n.op → plc ks.l n.b = 0 := fun h => by rw [hb0 h]; rfl
  have hzc : ¬ 2 < partsOf n.op → plc ks.l n.c = 0 := fun h => by rw [hc0 h]; rfl
  generalize plc ks.l n.a = a at hP hva hza ⊢
  generalize plc ks.l n.b = b at hP hvb hzb ⊢
  generalize plc ks.l n.c = c at hP hvc hzc ⊢
  refine AW.seq_k fun K hK => AW.region (by kernel_rfl) ?_
  simp -implicitDefEqProofs only [go_sem, seval, ↓reduceIte]
  refine hK _ ?_
  clear hK K
  by_cases q16 : op = 16 ∨ op = 17
  · have eA : ruleA op = 3 := by rcases q16 with rfl | rfl <;> rfl
    have eB : ruleB op = 3 := by rcases q16 with rfl | rfl <;> rfl
    have eD : ruleD op = 0 := by rcases q16 with rfl | rfl <;> rfl
    have eI : ruleI op = 2 := by rcases q16 with rfl | rfl <;> rfl
    rw [eA, eB, eD, eI]
    have hpo : partsOf n.op = 2 := by rw [hop]; rcases q16 with rfl | rfl <;> rfl
    rw [hpo] at hva hvb hzc
    replace hva := hva (by decide)
    replace hvb := hvb (by decide)
    replace hzc := hzc (by decide)
    refine AW.seq_k fun K2 hK2 => ?_
    refine AW.seq_k fun K hK => AW.region (by kernel_rfl) ?_
    simp -implicitDefEqProofs only [go_sem, seval, ↓reduceIte]
    refine hK _ ?_
    clear hK K
    refine AW.condS (by simp -implicitDefEqProofs only [go_sem, seval, ↓reduceIte]; rfl) (fun h46 => ?_) (fun h46 => ?_)
    rotate_left
    · cases h46
    refine AW.region (by kernel_rfl) ?_
    simp -implicitDefEqProofs only [go_sem, seval, ↓reduceIte]
    refine hK2 _ ?_
    refine AW.seq_k fun K3 hK3 => ?_
    refine AW.seq_k fun K hK => AW.region (by kernel_rfl) ?_
    simp -implicitDefEqProofs only [go_sem, seval, ↓reduceIte]
    refine hK _ ?_
    clear hK K
    refine AW.condS (by simp -implicitDefEqProofs only [go_sem, seval, ↓reduceIte]; rfl) (fun h56 => ?_) (fun h56 => ?_)
    · cases h56
    refine AW.skip ?_
    simp -implicitDefEqProofs only [go_sem, seval, ↓reduceIte]
    refine hK3 _ ?_
    refine AW.seq_k fun K4 hK4 => ?_
    refine AW.seq_k fun K => ?_
    intro hK
    refine AW.regionAt 3 (by kernel_rfl) rfl rfl ?_
    simp -implicitDefEqProofs only [go_sem, seval, ↓reduceIte, List.take_succ_cons, List.take_zero]
    refine ⟨_, Gives.aggEq (.inr rfl) (by kernel_rfl) (by kernel_rfl) (by kernel_rfl) (by simp -implicitDefEqProofs only [go_sem, seval, ↓reduceIte]; try rfl) (by simp -implicitDefEqProofs only [go_sem, seval, ↓reduceIte]; try rfl) (by kernel_rfl) (eqCs_3 _ _ _ _ _ _), ?_⟩
    simp -implicitDefEqProofs only [go_sem, seval, ↓reduceIte, List.drop_succ_cons, List.drop_zero]
    refine hK _ ?_
    clear hK K
    have hP2 : res = if eq3 a b c b b 0 = true then 2 else 0 := by
      rw [hP, hop, hzc]
      rcases q16 with rfl | rfl <;> rcases hva with rfl | rfl <;> rcases hvb with rfl | rfl <;> rfl
    generalize eq3 a b c b b 0 = z at hP2 ⊢
    cases z with
    | true =>
      refine AW.condS (by simp -implicitDefEqProofs only [go_sem, seval, ↓reduceIte]; rfl) (fun h68 => ?_) (fun h68 => ?_)
      · cases h68
      refine AW.skip ?_
      simp -implicitDefEqProofs only [go_sem, seval, ↓reduceIte]
      refine hK4 _ ?_
      refine AW.seq_k fun K hK => AW.region (by kernel_rfl) ?_
      simp -implicitDefEqProofs only [go_sem, seval, ↓reduceIte]
      refine hK _ ?_
      clear hK K
      refine AW.ret ?_
      simp -implicitDefEqProofs only [go_sem, seval, ↓reduceIte]
      refine endK_some ?_
      rw [hP2]; rfl
    | false =>
      refine AW.condS (by simp -implicitDefEqProofs only [go_sem, seval, ↓reduceIte]; rfl) (fun h68 => ?_) (fun h68 => ?_)
      · refine AW.seq_k fun K hK => AW.region (by kernel_rfl) ?_
        simp -implicitDefEqProofs only [go_sem, seval, ↓reduceIte]
        refine hK _ ?_
        clear hK K
        refine AW.ret ?_
        simp -implicitDefEqProofs only [go_sem, seval, ↓reduceIte]
        refine endK_some ?_
        rw [hP2]; rfl
      · cases h68
  by_cases q22 : op = 22
  · subst q22
    have eA : ruleA 22 = 2 := rfl
    have eB : ruleB 22 = 3 := rfl
    have eD : ruleD 22 = 3 := rfl
    have eI : ruleI 22 = 3 := rfl
    rw [eA, eB, eD, eI]
    have hpo : partsOf n.op = 3 := by rw [hop]; rfl
    rw [hpo] at hva hvb hvc
    replace hva := hva (by decide)
    replace hvb := hvb (by decide)
    replace hvc := hvc (by decide)
    refine AW.seq_k fun K2 hK2 => ?_
    refine AW.seq_k fun K hK => AW.region (by kernel_rfl) ?_
    simp -implicitDefEqProofs only [go_sem, seval, ↓reduceIte]
    refine hK _ ?_
    clear hK K
    refine AW.condS (by simp -implicitDefEqProofs only [go_sem, seval, ↓reduceIte]; rfl) (fun h46 => ?_) (fun h46 => ?_)
    · cases h46
    refine AW.skip ?_
    simp -implicitDefEqProofs only [go_sem, seval, ↓reduceIte]
    refine hK2 _ ?_
    refine AW.seq_k fun K3 hK3 => ?_
    refine AW.seq_k fun K hK => AW.region (by kernel_rfl) ?_
    simp -implicitDefEqProofs only [go_sem, seval, ↓reduceIte]
    refine hK _ ?_
    clear hK K
    refine AW.condS (by simp -implicitDefEqProofs only [go_sem, seval, ↓reduceIte]; rfl) (fun h56 => ?_) (fun h56 => ?_)
    rotate_left
    · cases h56
    refine AW.region (by kernel_rfl) ?_
    simp -implicitDefEqProofs only [go_sem, seval, ↓reduceIte]
    refine hK3 _ ?_
    refine AW.seq_k fun K4 hK4 => ?_
    refine AW.seq_k fun K => ?_
    intro hK
    refine AW.regionAt 3 (by kernel_rfl) rfl rfl ?_
    simp -implicitDefEqProofs only [go_sem, seval, ↓reduceIte, List.take_succ_cons, List.take_zero]
    refine ⟨_, Gives.aggEq (.inr rfl) (by kernel_rfl) (by kernel_rfl) (by kernel_rfl) (by simp -implicitDefEqProofs only [go_sem, seval, ↓reduceIte]; try rfl) (by simp -implicitDefEqProofs only [go_sem, seval, ↓reduceIte]; try rfl) (by kernel_rfl) (eqCs_3 _ _ _ _ _ _), ?_⟩
    simp -implicitDefEqProofs only [go_sem, seval, ↓reduceIte, List.drop_succ_cons, List.drop_zero]
    refine hK _ ?_
    clear hK K
    have hP2 : res = if eq3 a b c 2 b b = true then b else 0 := by
      rw [hP, hop]
      rcases hva with rfl | rfl <;> rcases hvb with rfl | rfl <;> rcases hvc with rfl | rfl <;> rfl
    generalize eq3 a b c 2 b b = z at hP2 ⊢
    cases z with
    | true =>
      refine AW.condS (by simp -implicitDefEqProofs only [go_sem, seval, ↓reduceIte]; rfl) (fun h68 => ?_) (fun h68 => ?_)
      · cases h68
      refine AW.skip ?_
      simp -implicitDefEqProofs only [go_sem, seval, ↓reduceIte]
      refine hK4 _ ?_
      refine AW.seq_k fun K hK => AW.region (by kernel_rfl) ?_
      simp -implicitDefEqProofs only [go_sem, seval, ↓reduceIte]
      refine hK _ ?_
      clear hK K
      refine AW.ret ?_
      simp -implicitDefEqProofs only [go_sem, seval, ↓reduceIte]
      refine endK_some ?_
      rw [hP2]; rfl
    | false =>
      refine AW.condS (by simp -implicitDefEqProofs only [go_sem, seval, ↓reduceIte]; rfl) (fun h68 => ?_) (fun h68 => ?_)
      · refine AW.seq_k fun K hK => AW.region (by kernel_rfl) ?_
        simp -implicitDefEqProofs only [go_sem, seval, ↓reduceIte]
        refine hK _ ?_
        clear hK K
        refine AW.ret ?_
        simp -implicitDefEqProofs only [go_sem, seval, ↓reduceIte]
        refine endK_some ?_
        rw [hP2]; rfl
      · cases h68
  have nA : (ruleA op == 3) = false := by unfold ruleA; rw [if_neg q16]; split; rfl; split; rfl; rfl
  have nD : (ruleD op == 3) = false := by unfold ruleD; rw [if_neg q22]; rfl
  refine AW.seq_k fun K2 hK2 => ?_
  refine AW.seq_k fun K hK => AW.region (by kernel_rfl) ?_
  simp -implicitDefEqProofs only [go_sem, seval, ↓reduceIte, nA]
  refine hK _ ?_
  clear hK K
  refine AW.condS (by simp -implicitDefEqProofs only [go_sem, seval, ↓reduceIte]; rfl) (fun h46 => ?_) (fun h46 => ?_)
  · cases h46
  refine AW.skip ?_
  simp -implicitDefEqProofs only [go_sem, seval, ↓reduceIte]
  refine hK2 _ ?_
  refine AW.seq_k fun K3 hK3 => ?_
  refine AW.seq_k fun K hK => AW.region (by kernel_rfl) ?_
  simp -implicitDefEqProofs only [go_sem, seval, ↓reduceIte, nD]
  refine hK _ ?_
  clear hK K
  refine AW.condS (by simp -implicitDefEqProofs only [go_sem, seval, ↓reduceIte]; rfl) (fun h56 => ?_) (fun h56 => ?_)
  · cases h56
  refine AW.skip ?_
  simp -implicitDefEqProofs only [go_sem, seval, ↓reduceIte]
  refine hK3 _ ?_
  refine AW.seq_k fun K4 hK4 => ?_
  refine AW.seq_k fun K => ?_
  intro hK
  refine AW.regionAt 3 (by kernel_rfl) rfl rfl ?_
  simp -implicitDefEqProofs only [go_sem, seval, ↓reduceIte, List.take_succ_cons, List.take_zero]
  refine ⟨_, Gives.aggEq (.inr rfl) (by kernel_rfl) (by kernel_rfl) (by kernel_rfl) (by simp -implicitDefEqProofs only [go_sem, seval, ↓reduceIte]; try rfl) (by simp -implicitDefEqProofs only [go_sem, seval, ↓reduceIte]; try rfl) (by kernel_rfl) (eqCs_3 _ _ _ _ _ _), ?_⟩
  simp -implicitDefEqProofs only [go_sem, seval, ↓reduceIte, List.drop_succ_cons, List.drop_zero]
  refine hK _ ?_
  clear hK K
  have hP2 : res = if eq3 a b c (ruleA op) (ruleB op) (ruleD op) = true then ruleI op else 0 := by
    have hcs : op = 1 ∨ op = 2 ∨ op = 3 ∨ op = 4 ∨ op = 5 ∨ op = 6 ∨ op = 7 ∨ op = 8 ∨ op = 9 ∨ op = 10 ∨ op = 11 ∨ op = 12 ∨ op = 13 ∨ op = 14 ∨ op = 15 ∨ op = 18 ∨ op = 19 ∨ op = 20 ∨ op = 21 := by omega
    rcases hcs with rfl | rfl | rfl | rfl | rfl | rfl | rfl | rfl | rfl | rfl | rfl | rfl | rfl | rfl | rfl | rfl | rfl | rfl | rfl
    · have hpo : partsOf n.op = 0 := by rw [hop]; rfl
      rw [hpo] at hva hvb hza hzb hzc
      rw [hP, hop, hza (by decide), hzb (by decide), hzc (by decide)]
      rfl
    · have hpo : partsOf n.op = 0 := by rw [hop]; rfl
      rw [hpo] at hva hvb hza hzb hzc
      rw [hP, hop, hza (by decide), hzb (by decide), hzc (by decide)]
      rw [hnm (by rw [hop]; rfl)]
      rfl
    · have hpo : partsOf n.op = 0 := by rw [hop]; rfl
      rw [hpo] at hva hvb hza hzb hzc
      rw [hP, hop, hza (by decide), hzb (by decide), hzc (by decide)]
      rfl
    · have hpo : partsOf n.op = 0 := by rw [hop]; rfl
      rw [hpo] at hva hvb hza hzb hzc
      rw [hP, hop, hza (by decide), hzb (by decide), hzc (by decide)]
      rfl
    · have hpo : partsOf n.op = 1 := by rw [hop]; rfl
      rw [hpo] at hva hvb hza hzb hzc
      rw [hP, hop, hzb (by decide), hzc (by decide)]
      rcases hva (by decide) with rfl | rfl <;> rfl
    · have hpo : partsOf n.op = 1 := by rw [hop]; rfl
      rw [hpo] at hva hvb hza hzb hzc
      rw [hP, hop, hzb (by decide), hzc (by decide)]
      rcases hva (by decide) with rfl | rfl <;> rfl
    · have hpo : partsOf n.op = 2 := by rw [hop]; rfl
      rw [hpo] at hva hvb hza hzb hzc
      rw [hP, hop, hzc (by decide)]
      rcases hva (by decide) with rfl | rfl <;> rcases hvb (by decide) with rfl | rfl <;> rfl
    · have hpo : partsOf n.op = 2 := by rw [hop]; rfl
      rw [hpo] at hva hvb hza hzb hzc
      rw [hP, hop, hzc (by decide)]
      rcases hva (by decide) with rfl | rfl <;> rcases hvb (by decide) with rfl | rfl <;> rfl
    · have hpo : partsOf n.op = 2 := by rw [hop]; rfl
      rw [hpo] at hva hvb hza hzb hzc
      rw [hP, hop, hzc (by decide)]
      rcases hva (by decide) with rfl | rfl <;> rcases hvb (by decide) with rfl | rfl <;> rfl
    · have hpo : partsOf n.op = 2 := by rw [hop]; rfl
      rw [hpo] at hva hvb hza hzb hzc
      rw [hP, hop, hzc (by decide)]
      rcases hva (by decide) with rfl | rfl <;> rcases hvb (by decide) with rfl | rfl <;> rfl
    · have hpo : partsOf n.op = 2 := by rw [hop]; rfl
      rw [hpo] at hva hvb hza hzb hzc
      rw [hP, hop, hzc (by decide)]
      rcases hva (by decide) with rfl | rfl <;> rcases hvb (by decide) with rfl | rfl <;> rfl
    · have hpo : partsOf n.op = 2 := by rw [hop]; rfl
      rw [hpo] at hva hvb hza hzb hzc
      rw [hP, hop, hzc (by decide)]
      rcases hva (by decide) with rfl | rfl <;> rcases hvb (by decide) with rfl | rfl <;> rfl
    · have hpo : partsOf n.op = 2 := by rw [hop]; rfl
      rw [hpo] at hva hvb hza hzb hzc
      rw [hP, hop, hzc (by decide)]
      rcases hva (by decide) with rfl | rfl <;> rcases hvb (by decide) with rfl | rfl <;> rfl
    · have hpo : partsOf n.op = 2 := by rw [hop]; rfl
      rw [hpo] at hva hvb hza hzb hzc
      rw [hP, hop, hzc (by decide)]
      rcases hva (by decide) with rfl | rfl <;> rcases hvb (by decide) with rfl | rfl <;> rfl
    · have hpo : partsOf n.op = 2 := by rw [hop]; rfl
      rw [hpo] at hva hvb hza hzb hzc
      rw [hP, hop, hzc (by decide)]
      rcases hva (by decide) with rfl | rfl <;> rcases hvb (by decide) with rfl | rfl <;> rfl
    · have hpo : partsOf n.op = 2 := by rw [hop]; rfl
      rw [hpo] at hva hvb hza hzb hzc
      rw [hP, hop, hzc (by decide)]
      rcases hva (by decide) with rfl | rfl <;> rcases hvb (by decide) with rfl | rfl <;> rfl
    · have hpo : partsOf n.op = 2 := by rw [hop]; rfl
      rw [hpo] at hva hvb hza hzb hzc
      rw [hP, hop, hzc (by decide)]
      rcases hva (by decide) with rfl | rfl <;> rcases hvb (by decide) with rfl | rfl <;> rfl
    · have hpo : partsOf n.op = 2 := by rw [hop]; rfl
      rw [hpo] at hva hvb hza hzb hzc
      rw [hP, hop, hzc (by decide)]
      rcases hva (by decide) with rfl | rfl <;> rcases hvb (by decide) with rfl | rfl <;> rfl
    · have hpo : partsOf n.op = 2 := by rw [hop]; rfl
      rw [hpo] at hva hvb hza hzb hzc
      rw [hP, hop, hzc (by decide)]
      rcases hva (by decide) with rfl | rfl <;> rcases hvb (by decide) with rfl | rfl <;> rfl
  generalize eq3 a b c (ruleA op) (ruleB op) (ruleD op) = z at hP2 ⊢
  cases z with
  | true =>
    refine AW.condS (by simp -implicitDefEqProofs only [go_sem, seval, ↓reduceIte]; rfl) (fun h68 => ?_) (fun h68 => ?_)
    · cases h68
    refine AW.skip ?_
    simp -implicitDefEqProofs only [go_sem, seval, ↓reduceIte]
    refine hK4 _ ?_
    refine AW.seq_k fun K hK => AW.region (by kernel_rfl) ?_
    simp -implicitDefEqProofs only [go_sem, seval, ↓reduceIte]
    refine hK _ ?_
    clear hK K
    refine AW.ret ?_
    simp -implicitDefEqProofs only [go_sem, seval, ↓reduceIte]
    refine endK_some ?_
    rw [hP2]; rfl
  | false =>
    refine AW.condS (by simp -implicitDefEqProofs only [go_sem, seval, ↓reduceIte]; rfl) (fun h68 => ?_) (fun h68 => ?_)
    · refine AW.seq_k fun K hK => AW.region (by kernel_rfl) ?_
      simp -implicitDefEqProofs only [go_sem, seval, ↓reduceIte]
      refine hK _ ?_
      clear hK K
      refine AW.ret ?_
      simp -implicitDefEqProofs only [go_sem, seval, ↓reduceIte]
      refine endK_some ?_
      rw [hP2]; rfl
    · cases h68
end Go.Hs
end

section
namespace Go.Hs
open Go.Proofs
set_option maxRecDepth 10000
def kindsP (names : List (List UInt8)) (l : List XN) : List Int × Int × Int := if checkP l ≠ 0 then ([], 0, checkP l) else goN names l 0 []
def encKs (c : Col) (l : List Int) : V := encSl c 1 (V.int .u8) (grownS l)
def encKr (c : Col) (p : List Int × Int × Int) : V := .tuple [encKs c p.1, .int .i64 p.2.1, .int .i64 p.2.2]
theorem kd_range' {op : Int} {nm : Bool} {a b c : Int} (hb : b = 0 ∨ b = 1 ∨ b = 2) (h : kd op nm a b c ≠ 0) : kd op nm a b c = 1 ∨ kd op nm a b c = 2 := by
  have := kd_range (op := op) (nm := nm) (a := a) (c := c) (b := b) (by omega)
  omega
theorem plc_range {ks : List Int} (h : ∀ y ∈ ks, y = 1 ∨ y = 2) (i : Int) : plc ks i = 0 ∨ plc ks i = 1 ∨ plc ks i = 2 := by
  unfold plc
  split
  · exact .inl rfl
  · rw [List.getD_eq_getElem?_getD]
    cases hg : ks[i.toNat]? with
    | none => exact .inl rfl
    | some y => exact .inr (h y (List.mem_of_getElem? hg))
theorem goN_drop {names : List (List UInt8)} {l : List XN} {k : Nat} {n : XN} (h : l[k]? = some n) (ks : List Int) : goN names (l.drop k) k ks = if kindN names n ks = 0 then ([], (k : Int), 90) else goN names (l.drop (k + 1)) (k + 1 : Nat) (ks ++ [kindN names n ks]) := by
  obtain ⟨h1, h2⟩ := List.getElem?_eq_some_iff.1 h
  rw [List.drop_eq_getElem_cons h1, h2]; rfl
theorem Im.knC {v : V} (h : v.Im) : (V.agg (knC v)).Im := by
  refine .agg _ fun x hx => ?_
  rcases List.mem_append.1 hx with h1 | h1
  · have : ∀ l : List V, (l.all fun v => match v with | .int _ _ => true | _ => false) = true → ∀ x ∈ l, x.Im := by
      intro l hl x hx
      have := List.all_eq_true.1 hl x hx
      cases x <;> first | exact .int _ _ | cases this
    exact this ruleC rfl x h1
  · rw [List.mem_singleton.1 h1]; exact h
theorem Im.xn (n : XN) : (encXN n).Im := by
  refine .agg _ fun x hx => ?_
  simp only [List.mem_cons, List.not_mem_nil, or_false] at hx
  rcases hx with rfl | rfl | rfl | rfl | rfl | rfl <;> first | exact .int _ _ | exact .str _
theorem Im.strs (c : Col) (s : Sl (List UInt8)) : (encSl c 1 V.str s).Im := Im.enc (fun x y hy => by simp [V.cells] at hy; subst hy; exact .str _) s
theorem buildKn (x : V) (hx : x.cells = [x]) (hs : x.solid = true) : buildV Tryz.prog 88 [(0, .agg ruleC), (1, x)] = some (.agg (knC x)) := by
  rw [buildV_K (tbl := [(0, 92), (92, 1)]) (z := List.replicate 92 (.int .u8 0) ++ [.nils]) (by kernel_rfl) (by kernel_rfl)]
  have e1 : Hs.setAt (List.replicate 92 (.int .u8 0) ++ [.nils]) 0 ruleC = ruleC ++ [.nils] := by
    rw [setAt_eq _ _ _ (by decide)]; rfl
  have e2 : Hs.setAt (ruleC ++ [.nils]) 92 [x] = knC x := by
    show (ruleC ++ [V.nils]).set 92 x = ruleC ++ [x]
    rw [List.set_append_right _ _ (by decide)]; rfl
  have l1 : (List.replicate 92 (V.int .u8 0) ++ [V.nils]).length = 93 := rfl
  have l2 : (ruleC ++ [V.nils]).length = 93 := rfl
  have c1 : (V.agg ruleC).cells = ruleC := rfl
  have s1 : (V.agg ruleC).solid = true := rfl
  have t0 : tblP [(0, 92), (92, 1)] 0 = some (0, 92) := rfl
  have t1 : tblP [(0, 92), (92, 1)] 1 = some (92, 1) := rfl
  simp only [fillV, t0, t1, c1, s1, hx, hs, l1, ruleC_len, e1, l2, e2, List.length_singleton, true_and, Nat.zero_add]
  rfl
theorem enc_solid {α : Type} (c : Col) (m : Nat) (f : α → V) (s : Sl α) : (encSl c m f s).solid = true := by cases s <;> rfl
theorem enc_cells {α : Type} (c : Col) (m : Nat) (f : α → V) (s : Sl α) : (encSl c m f s).cells = [encSl c m f s] := by cases s <;> rfl
theorem setAt_kn (l : List V) (v : V) (h : l.length = 93) : Hs.setAt l 0 (knC v) = knC v := setAt_all (by rw [h, knC_len])
theorem cells_u8 (x : Int) : (V.int .u8 x).cells.length = 1 := rfl
theorem tKinds_spec (G : Nat → V) (hE : GExp G) (c c1 : Col) (s : Sl XN) (names : Sl (List UInt8)) (hs : s.l.length < 1000000) (hnm : ∀ n ∈ s.l, n.name.length < 100000) (hnl : names.l.length < 1000000) :
    Spec Tryz.prog G 18 [.agg [encSl c 6 encXN s], encSl c1 1 V.str names] hNone (fun v _ => v = encKr .new (kindsP names.l s.l)) := by
  have hG := hE.ok
  refine Spec.of_code' 0 40 [.tmp 4, .tmp 5, .tmp 6] Tryz.func18 rfl rfl rfl rfl fun X => ?_
  have hP : kindsP names.l s.l = if checkP s.l ≠ 0 then ([], 0, checkP s.l) else goN names.l s.l 0 [] := rfl
  generalize kindsP names.l s.l = res at hP ⊢
  refine AW.seq_k fun K hK => AW.region (by kernel_rfl) ?_
  simp -implicitDefEqProofs only [go_sem, seval, ↓reduceIte]
  intro g2
  refine hK _ ?_
  clear hK K
  refine AW.seq_k fun K1 hK1 => ?_
  refine AW.seq_k fun K hK => AW.region (by kernel_rfl) ?_
  simp -implicitDefEqProofs only [go_sem, seval, ↓reduceIte]
  refine CallA.pure hG (by kernel_rfl) ?_
  simp -implicitDefEqProofs only [go_sem, seval, ↓reduceIte, recol_xns]
  refine (xCheck_spec G hE _ s hs hnm).mono ?_
  rintro _ _ rfl
  simp -implicitDefEqProofs only [go_sem, seval, ↓reduceIte]
  refine hK _ ?_
  clear hK K
  refine AW.seq_k fun K hK => AW.region (by kernel_rfl) ?_
  simp -implicitDefEqProofs only [go_sem, seval, ↓reduceIte]
  refine hK _ ?_
  clear hK K
  by_cases hc : checkP s.l = 0
  rotate_left
  · have q1 : (checkP s.l != 0) = true := by simpa using hc
    rw [if_pos hc] at hP
    refine AW.condS (by simp -implicitDefEqProofs only [go_sem, seval, ↓reduceIte]; rfl) (fun h14 => ?_) (fun h14 => ?_)
    · refine AW.seq_k fun K hK => AW.region (by kernel_rfl) ?_
      simp -implicitDefEqProofs only [go_sem, seval, ↓reduceIte]
      refine hK _ ?_
      clear hK K
      refine AW.ret ?_
      simp -implicitDefEqProofs only [go_sem, seval, ↓reduceIte]
      refine endK_some ?_
      rw [hP]; rfl
    · rw [q1] at h14; cases h14
  have q1 : (checkP s.l != 0) = false := by simpa using hc
  rw [if_neg (by simpa using hc)] at hP
  refine AW.condS (by simp -implicitDefEqProofs only [go_sem, seval, ↓reduceIte]; rfl) (fun h14 => ?_) (fun h14 => ?_)
  · rw [q1] at h14; cases h14
  refine AW.skip ?_
  simp -implicitDefEqProofs only [go_sem, seval, ↓reduceIte]
  refine hK1 _ ?_
  have hdep : depthP s.l ≠ 0 := by
    intro h
    rw [checkP, if_pos h] at hc
    cases hc
  refine AW.seq_k fun K hK => AW.region (by kernel_rfl) ?_
  simp -implicitDefEqProofs only [go_sem, seval, ↓reduceIte]
  refine CallA.pure hG (by kernel_rfl) ?_
  simp -implicitDefEqProofs only [go_sem, seval, ↓reduceIte, List.map_nil]
  refine (tRules_spec G hG).mono ?_
  rintro _ _ rfl
  have hrr : (V.agg ruleC).recol Col.bk = .agg ruleC := rfl
  have hrl : (V.agg ruleC).cells = ruleC := rfl
  simp -implicitDefEqProofs only [go_sem, seval, ↓reduceIte, hrr, ruleC_len, buildKn (encSl c1 1 V.str names) (enc_cells ..) (enc_solid ..)]
  intro g7
  simp -implicitDefEqProofs only [go_sem, seval, ↓reduceIte, knC_len, cells_agg]
  rw [setAt_kn _ _ ?hl]
  case hl => rfl
  refine hK _ ?_
  clear hK K
  refine AW.seq_k fun K2 hK2 => ?_
  refine AW.seq_k fun K hK => AW.region (by kernel_rfl) ?_
  simp -implicitDefEqProofs only [go_sem, seval, ↓reduceIte]
  refine hK _ ?_
  clear hK K
  refine AW.block ?_
  refine AW.for s.l.length (fun k (x : Nat × List Int) => st [(4, grown 37 x.1 1 x.2), (7, .ptr 7 g7 0), (20, encSl c 6 encXN s), (21, .int .i64 s.l.length), (22, .int .i64 k)] [(7, .cells .new g7 0 (knC (encSl c1 1 V.str names))), (37, grownO x.1 (V.int .u8) x.2)])
    (fun k x => res = goN names.l (s.l.drop k) k x.2 ∧ x.2.length = k ∧ ∀ y ∈ x.2, y = 1 ∨ y = 2) 0 (0, []) (Nat.zero_le _) ⟨hP, rfl, fun y hy => by cases hy⟩
    (Weak.st (by simp -implicitDefEqProofs only [go_sem, seval, ↓reduceIte]; try rfl) (by simp -implicitDefEqProofs only [go_sem, seval, ↓reduceIte]; try rfl)) ?_
  rintro k ⟨gx, ks⟩ hk ⟨hR, hkl, hkr⟩ L3 hL3
  replace hR : res = goN names.l (s.l.drop k) k ks := hR
  replace hkl : ks.length = k := hkl
  replace hkr : ∀ y ∈ ks, y = 1 ∨ y = 2 := hkr
  refine AW.seq_k fun K hK => AW.region (by kernel_rfl) ?_
  simp -implicitDefEqProofs only [go_sem, seval, ↓reduceIte]
  refine hK _ ?_
  clear hK K
  refine AW.seq_k fun K4 hK4 => ?_
  refine AW.condS (by simp -implicitDefEqProofs only [go_sem, seval, ↓reduceIte]; rfl) (fun h23 => ?_) (fun h23 => ?_)
  · have hk1 : k < s.l.length := by simpa using h23
    have hg := List.getElem?_eq_getElem hk1
    generalize s.l[k] = n at hg
    rw [goN_drop hg] at hR
    have hpl : PlOk ks.length n := hkl ▸ plOk_get hdep hg
    refine AW.skip ?_
    simp -implicitDefEqProofs only [go_sem, seval, ↓reduceIte]
    refine hK4 _ ?_
    refine AW.seq_k fun K5 hK5 => ?_
    refine AW.block ?_
    refine AW.seq_k fun K hK => AW.region (by kernel_rfl) ?_
    simp -implicitDefEqProofs only [go_sem, seval, ↓reduceIte, hg, encXN_K]
    intro g9
    refine hK _ ?_
    clear hK K
    refine AW.seq_k fun K hK => AW.region (by kernel_rfl) ?_
    simp -implicitDefEqProofs only [go_sem, seval, ↓reduceIte, knC_len]
    rw [← encXN_K]
    refine CallA.bor hG [.agg (knC (encSl c1.ent 1 V.str names)), encXN n, encSl .old 1 (V.int .u8) (grownS ks)] (by kernel_rfl) ⟨?_, ?_, ?_, trivial⟩ ?_
    · refine Rd.im (Im.knC (Im.strs _ _)) ?_
      show (V.agg (knC _)).recol _ = _
      rw [recol_agg, knC_recol]; simp -implicitDefEqProofs only [go_sem, seval, ↓reduceIte]
    · exact Rd.im (Im.xn n) (recol_xn _ _)
    · exact Rd.grown (g := gx) (f := V.int .u8) (f' := V.int .u8) (by simp -implicitDefEqProofs only [go_sem, seval, ↓reduceIte]; try rfl) cells_u8 (fun x y hy => by simp [V.cells] at hy; subst hy; exact .int _ _) (fun _ => rfl)
    refine (tKind_spec G hG _ _ names hnl n (grownS ks) (by rw [grownS_l]; exact hpl) (by rw [grownS_l]; omega) (by rw [grownS_l]; exact hkr)).mono ?_
    rintro _ _ rfl
    refine ⟨.int _ _, ?_⟩
    rw [grownS_l]
    have hkd := fun h => kd_range' (op := n.op) (nm := names.l.contains n.name) (a := plc ks n.a) (c := plc ks n.c) (plc_range hkr n.b) h
    have hkn : kindN names.l n ks = kd n.op (names.l.contains n.name) (plc ks n.a) (plc ks n.b) (plc ks n.c) := rfl
    rw [← hkn] at hkd
    generalize kindN names.l n ks = v at hR hkd ⊢
    simp -implicitDefEqProofs only [go_sem, seval, ↓reduceIte]
    refine hK _ ?_
    clear hK K
    refine AW.seq_k fun K6 hK6 => ?_
    refine AW.seq_k fun K hK => AW.region (by kernel_rfl) ?_
    simp -implicitDefEqProofs only [go_sem, seval, ↓reduceIte]
    refine hK _ ?_
    clear hK K
    by_cases hv : v = 0
    · have q2 : (v == 0) = true := by simpa using hv
      rw [if_pos hv] at hR
      refine AW.condS (by simp -implicitDefEqProofs only [go_sem, seval, ↓reduceIte]; rfl) (fun h32 => ?_) (fun h32 => ?_)
      · refine AW.seq_k fun K hK => AW.region (by kernel_rfl) ?_
        simp -implicitDefEqProofs only [go_sem, seval, ↓reduceIte]
        refine hK _ ?_
        clear hK K
        refine AW.ret ?_
        simp -implicitDefEqProofs only [go_sem, seval, ↓reduceIte]
        refine endK_some ?_
        rw [hR]; rfl
      · rw [q2] at h32; cases h32
    have q2 : (v == 0) = false := by simpa using hv
    rw [if_neg hv] at hR
    refine AW.condS (by simp -implicitDefEqProofs only [go_sem, seval, ↓reduceIte]; rfl) (fun h32 => ?_) (fun h32 => ?_)
    · rw [q2] at h32; cases h32
    refine AW.skip ?_
    simp -implicitDefEqProofs only [go_sem, seval, ↓reduceIte]
    refine hK6 _ ?_
    refine AW.region (by kernel_rfl) ?_
    simp -implicitDefEqProofs only [go_sem, seval, ↓reduceIte]
    intro g36
    refine app_grown (f := V.int .u8) (l := ks) (l2 := [v]) (g := gx) cells_u8 rfl rfl rfl (by simp -implicitDefEqProofs only [go_sem, seval, ↓reduceIte]; try rfl) (roomOk_of (by omega) (by simp; omega)) fun g2 => ?_
    simp -implicitDefEqProofs only [go_sem, seval, ↓reduceIte]
    refine hK5 _ ?_
    refine AW.region (by kernel_rfl) ?_
    simp -implicitDefEqProofs only [go_sem, seval, ↓reduceIte]
    refine hL3 _ ⟨hk1, (g2, ks ++ [v]), ⟨hR, by rw [List.length_append, hkl]; rfl, ?_⟩, Weak.st (by simp -implicitDefEqProofs only [go_sem, seval, ↓reduceIte]; exact congrArg _ (w64 (by omega) (by omega))) (by simp -implicitDefEqProofs only [go_sem, seval, ↓reduceIte]; try rfl)⟩
    intro y hy
    rcases List.mem_append.1 hy with h | h
    · exact hkr y h
    · rw [List.mem_singleton.1 h]; exact hkd hv
  · have hk1 : k = s.l.length := by simp at h23; omega
    refine AW.exit ?_
    simp -implicitDefEqProofs only [go_sem, seval, ↓reduceIte]
    refine hK2 _ ?_
    rw [hk1, List.drop_length] at hR
    refine AW.weak (Weak.stF (fun o => o == 37) (l := [(4, encKs .new ks)]) (m := []) ?_ trivial) ?_
    · simp -implicitDefEqProofs only [go_sem, seval, ↓reduceIte]
      exact Fz.grown rfl rfl cells_u8
    refine AW.seq_k fun K hK => AW.region (by kernel_rfl) ?_
    simp -implicitDefEqProofs only [go_sem, seval, ↓reduceIte]
    refine hK _ ?_
    clear hK K
    refine AW.ret ?_
    simp -implicitDefEqProofs only [go_sem, seval, ↓reduceIte]
    refine endK_some ?_
    rw [hR]; rfl
end Go.Hs
end

section
namespace Go.Hs
open Go.Proofs
set_option maxRecDepth 10000
theorem goN_len {names : List (List UInt8)} : ∀ (l : List XN) (i : Int) (acc : List Int), (goN names l i acc).2.2 = 0 → (goN names l i acc).1.length = acc.length + l.length
  | [], i, acc, _ => rfl
  | n :: r, i, acc, h => by
    rw [goN] at h ⊢
    split
    · rename_i h1
      rw [if_pos h1] at h
      cases h
    · rename_i h1
      rw [if_neg h1] at h
      have := goN_len r (i + 1) (acc ++ [kindN names n acc]) h
      rw [this]; simp; omega
theorem kindsP_len {names : List (List UInt8)} {l : List XN} (h : (kindsP names l).2.2 = 0) : (kindsP names l).1.length = l.length ∧ 0 < l.length := by
  unfold kindsP at h ⊢
  by_cases hc : checkP l = 0
  · rw [if_neg (by simpa using hc)] at h ⊢
    refine ⟨by have := goN_len l 0 [] h; simpa using this, ?_⟩
    cases l with
    | nil => exact absurd hc (by decide)
    | cons => simp
  · rw [if_pos hc] at h
    exact absurd h hc
def ofTP (names : List (List UInt8)) (l : List XN) : Int × Int × Int := if (kindsP names l).2.2 ≠ 0 then (0, (kindsP names l).2.1, (kindsP names l).2.2) else ((kindsP names l).1.getD ((kindsP names l).1.length - 1) 0, 0, 0)
def encO3 (p : Int × Int × Int) : V := .tuple [.int .u8 p.1, .int .i64 p.2.1, .int .i64 p.2.2]
theorem recol_ks (g : Col → Col) (c : Col) (s : Sl Int) : (encSl c 1 (V.int .u8) s).recol g = encSl (g c) 1 (V.int .u8) s := recol_enc g c 1 (fun _ => rfl) s
theorem tOf_spec (G : Nat → V) (hE : GExp G) (c c1 : Col) (s : Sl XN) (names : Sl (List UInt8)) (hs : s.l.length < 1000000) (hnm : ∀ n ∈ s.l, n.name.length < 100000) (hnl : names.l.length < 1000000) :
    Spec Tryz.prog G 20 [.agg [encSl c 6 encXN s], encSl c1 1 V.str names] hNone (fun v _ => v = encO3 (ofTP names.l s.l)) := by
  have hG := hE.ok
  refine Spec.of_code' 0 25 [.tmp 4, .tmp 5, .tmp 6] Tryz.func20 rfl rfl rfl rfl fun X => ?_
  have hP : ofTP names.l s.l = if (kindsP names.l s.l).2.2 ≠ 0 then (0, (kindsP names.l s.l).2.1, (kindsP names.l s.l).2.2) else ((kindsP names.l s.l).1.getD ((kindsP names.l s.l).1.length - 1) 0, 0, 0) := rfl
  have hKi := fun c c1 => tKinds_spec G hE c c1 s names hs hnm hnl
  have hL := kindsP_len (names := names.l) (l := s.l)
  generalize ofTP names.l s.l = res at hP ⊢
  generalize kindsP names.l s.l = p at hP hKi hL
  obtain ⟨ks, i, e⟩ := p
  simp only at hP hL
  refine AW.seq_k fun K hK => AW.region (by kernel_rfl) ?_
  simp -implicitDefEqProofs only [go_sem, seval, ↓reduceIte]
  intro g2
  refine hK _ ?_
  clear hK K
  refine AW.seq_k fun K hK => AW.region (by kernel_rfl) ?_
  simp -implicitDefEqProofs only [go_sem, seval, ↓reduceIte]
  refine CallA.pure hG (by kernel_rfl) ?_
  simp -implicitDefEqProofs only [go_sem, seval, ↓reduceIte, recol_xns]
  refine (hKi _ _).mono ?_
  rintro _ _ rfl
  simp -implicitDefEqProofs only [go_sem, seval, ↓reduceIte, encKr, encKs, recol_ks]
  refine hK _ ?_
  clear hK K
  refine AW.seq_k fun K1 hK1 => ?_
  refine AW.seq_k fun K hK => AW.region (by kernel_rfl) ?_
  simp -implicitDefEqProofs only [go_sem, seval, ↓reduceIte]
  refine hK _ ?_
  clear hK K
  by_cases he : e = 0
  rotate_left
  · have q1 : (e != 0) = true := by simpa using he
    rw [if_pos he] at hP
    refine AW.condS (by simp -implicitDefEqProofs only [go_sem, seval, ↓reduceIte]; rfl) (fun h16 => ?_) (fun h16 => ?_)
    · refine AW.seq_k fun K hK => AW.region (by kernel_rfl) ?_
      simp -implicitDefEqProofs only [go_sem, seval, ↓reduceIte]
      refine hK _ ?_
      clear hK K
      refine AW.ret ?_
      simp -implicitDefEqProofs only [go_sem, seval, ↓reduceIte]
      refine endK_some ?_
      rw [hP]; rfl
    · rw [q1] at h16; cases h16
  have q1 : (e != 0) = false := by simpa using he
  rw [if_neg (by simpa using he)] at hP
  obtain ⟨hl1, hl2⟩ := hL he
  refine AW.condS (by simp -implicitDefEqProofs only [go_sem, seval, ↓reduceIte]; rfl) (fun h16 => ?_) (fun h16 => ?_)
  · rw [q1] at h16; cases h16
  refine AW.skip ?_
  simp -implicitDefEqProofs only [go_sem, seval, ↓reduceIte]
  refine hK1 _ ?_
  obtain ⟨m, hm⟩ : ∃ m : Nat, ks.length = m + 1 := ⟨ks.length - 1, by omega⟩
  have hw : IntKind.i64.wrap ((ks.length : Int) - 1) = (m : Int) := by rw [w64 (by omega) (by omega)]; omega
  obtain ⟨v, hv⟩ : ∃ v, ks[m]? = some v := ⟨_, List.getElem?_eq_getElem (by omega)⟩
  have hgd : ks.getD (ks.length - 1) 0 = v := by rw [show ks.length - 1 = m by omega, List.getD_eq_getElem?_getD, hv]; rfl
  rw [hgd] at hP
  refine AW.seq_k fun K hK => AW.region (by kernel_rfl) ?_
  simp -implicitDefEqProofs only [go_sem, seval, ↓reduceIte, hw, hv]
  refine hK _ ?_
  clear hK K
  refine AW.ret ?_
  simp -implicitDefEqProofs only [go_sem, seval, ↓reduceIte]
  refine endK_some ?_
  rw [hP]; rfl
def tr1 : XN := ⟨3, 0, [], -1, -1, -1⟩
def guardP (s : List UInt8) (names : List (List UInt8)) : List XN × Int × Int :=
  if (toksP s).2.2 = 0 ∧ (toksP s).1.length = 0 then ([tr1], 0, 0)
  else if (exprP s).2.2 ≠ 0 then ([], (exprP s).2.1, (exprP s).2.2)
  else if (ofTP names (exprP s).1).2.2 ≠ 0 ∨ (ofTP names (exprP s).1).1 ≠ 2 then ([], 0, 90) else ((exprP s).1, 0, 0)
theorem exprP_bnd {s : List UInt8} (hs : s.length < 100000) : (exprP s).1.length < 100000 ∧ ∀ n ∈ (exprP s).1, n.name.length < 100000 := by
  have hT := toks_ok hs
  have hnm := climb_names hT
  have hok := ((climbP_bal (toksP s).1 ((toksP s).1.length + 1) 1 ⟨0, [], 0⟩).ok ⟨Nat.zero_le _, Nat.le_refl _⟩)
  have hfr : (fromP (toksP s).1).1.length < 100000 ∧ ∀ n ∈ (fromP (toksP s).1).1, n.name.length < 100000 := by
    unfold fromP
    split
    · exact ⟨Nat.zero_lt_succ _, fun n hn => by cases hn⟩
    · split
      · exact ⟨Nat.zero_lt_succ _, fun n hn => by cases hn⟩
      · have := hok.1; have := hok.2; have := hT.len
        exact ⟨by show (climbP _ _ _ _).2.nodes.length < _; omega, hnm⟩
  unfold exprP
  split
  · exact ⟨Nat.zero_lt_succ _, fun n hn => by cases hn⟩
  split
  · exact ⟨Nat.zero_lt_succ _, fun n hn => by cases hn⟩
  split
  · exact hfr
  · exact ⟨Nat.zero_lt_succ _, fun n hn => by cases hn⟩
theorem tGuard_spec (G : Nat → V) (hE : GExp G) (c1 : Col) (s : List UInt8) (names : Sl (List UInt8)) (hs : s.length < 100000) (hnl : names.l.length < 1000000) :
    Spec Tryz.prog G 23 [.str s, encSl c1 1 V.str names] hNone (fun v _ => v = encFr .new (guardP s names.l)) := by
  have hG := hE.ok
  refine Spec.of_code' 0 55 [.cell 4 24, .tmp 5, .tmp 6] Tryz.func23 rfl rfl rfl rfl fun X => ?_
  have hP : guardP s names.l = if (toksP s).2.2 = 0 ∧ (toksP s).1.length = 0 then ([tr1], 0, 0)
    else if (exprP s).2.2 ≠ 0 then ([], (exprP s).2.1, (exprP s).2.2)
    else if (ofTP names.l (exprP s).1).2.2 ≠ 0 ∨ (ofTP names.l (exprP s).1).1 ≠ 2 then ([], 0, 90) else ((exprP s).1, 0, 0) := rfl
  generalize guardP s names.l = res at hP ⊢
  have hl := lTokens_spec G hE s hs
  have hx := xParse_spec G hE s hs
  have hb := exprP_bnd hs
  have ho := fun c c1 => tOf_spec G hE c c1 (grownS (exprP s).1) names (by rw [grownS_l]; omega) (by rw [grownS_l]; exact hb.2) hnl
  simp only [grownS_l] at ho
  generalize toksP s = t at hP hl
  generalize exprP s = p at hP hx ho
  obtain ⟨l, at0, e0⟩ := t
  obtain ⟨ns, i, e⟩ := p
  simp only at hP ho
  generalize ofTP names.l ns = o at hP ho
  obtain ⟨k, j, e2⟩ := o
  simp only at hP
  refine AW.seq_k fun K hK => AW.region (by kernel_rfl) ?_
  simp -implicitDefEqProofs only [go_sem, seval, ↓reduceIte]
  intro g4
  refine hK _ ?_
  clear hK K
  refine AW.seqJ (fun (_ : Unit) => st [(0, .str s), (1, encSl c1 1 V.str names), (4, .ptr 4 g4 0)] [(4, .cells .new g4 0 [.nils])]) (fun _ => ¬ (e0 = 0 ∧ l.length = 0)) (fun K1 hK1 => ?_) ?_
  · refine AW.seq_k fun K hK => AW.region (by kernel_rfl) ?_
    simp -implicitDefEqProofs only [go_sem, seval, ↓reduceIte]
    refine CallA.pure hG (by kernel_rfl) ?_
    simp -implicitDefEqProofs only [go_sem, seval, ↓reduceIte]
    refine hl.mono ?_
    rintro _ _ rfl
    simp -implicitDefEqProofs only [go_sem, seval, ↓reduceIte, encTok, encTks, recol_tks]
    refine hK _ ?_
    clear hK K
    by_cases h01 : e0 = 0
    rotate_left
    · have q1 : (e0 == 0) = false := by simpa using h01
      refine AW.seq_k fun K hK => AW.region (by kernel_rfl) ?_
      simp -implicitDefEqProofs only [go_sem, seval, ↓reduceIte, q1]
      refine hK _ ?_
      clear hK K
      refine AW.condS (by simp -implicitDefEqProofs only [go_sem, seval, ↓reduceIte]; rfl) (fun h25 => ?_) (fun h25 => ?_)
      · cases h25
      refine AW.skip ?_
      simp -implicitDefEqProofs only [go_sem, seval, ↓reduceIte]
      exact hK1 _ () (fun h => h01 h.1) (Weak.st (by simp -implicitDefEqProofs only [go_sem, seval, ↓reduceIte]) (by simp -implicitDefEqProofs only [go_sem, seval, ↓reduceIte]))
    have q1 : (e0 == 0) = true := by simpa using h01
    by_cases h02 : l.length = 0
    · rw [if_pos ⟨h01, h02⟩] at hP
      have q2 : (((l.length : Nat) : Int) == 0) = true := by simp [h02]
      refine AW.seq_k fun K hK => AW.region (by kernel_rfl) ?_
      simp -implicitDefEqProofs only [go_sem, seval, ↓reduceIte, q1, q2]
      refine hK _ ?_
      clear hK K
      refine AW.condS (by simp -implicitDefEqProofs only [go_sem, seval, ↓reduceIte]; rfl) (fun h25 => ?_) (fun h25 => ?_)
      · refine AW.seq_k fun K hK => AW.region (by kernel_rfl) ?_
        simp -implicitDefEqProofs only [go_sem, seval, ↓reduceIte]
        intro g27
        refine hK _ ?_
        clear hK K
        refine AW.weak (Weak.stF (fun o => o == 27) (l := [(4, .ptr 4 g4 0), (5, .int .i64 0), (6, .int .i64 0)]) (m := [(4, .cells .new g4 0 [encXs .new [tr1]])]) ?_ ?_) ?_
        · simp -implicitDefEqProofs only [go_sem, seval, ↓reduceIte]
          first | exact ⟨Fz.same _, Fz.same _, Fz.same _⟩ | exact ⟨Fz.same _, Fz.same _⟩
        · simp only [allFzO_cons, allFzO_nil, and_true]
          exact FzO.of (c := .new) (fz := 0) (cs := [.msl 27 g27 0 1 6]) rfl (by simp -implicitDefEqProofs only [go_sem, seval, ↓reduceIte]; try rfl) ⟨Fz.sl (f := encXN) (l := [tr1]) (m := 6) (g := g27) (fz := 0) (c := .new) rfl (by simp -implicitDefEqProofs only [go_sem, seval, ↓reduceIte]; try rfl) encXN_cells, trivial⟩
        refine AW.ret ?_
        simp -implicitDefEqProofs only [go_sem, seval, ↓reduceIte]
        refine endK_some ?_
        rw [hP]; rfl
      · cases h25
    have q2 : (((l.length : Nat) : Int) == 0) = false := by rw [beq_eq_false_iff_ne]; omega
    refine AW.seq_k fun K hK => AW.region (by kernel_rfl) ?_
    simp -implicitDefEqProofs only [go_sem, seval, ↓reduceIte, q1, q2]
    refine hK _ ?_
    clear hK K
    refine AW.condS (by simp -implicitDefEqProofs only [go_sem, seval, ↓reduceIte]; rfl) (fun h25 => ?_) (fun h25 => ?_)
    · cases h25
    refine AW.skip ?_
    simp -implicitDefEqProofs only [go_sem, seval, ↓reduceIte]
    exact hK1 _ () (fun h => h02 h.2) (Weak.st (by simp -implicitDefEqProofs only [go_sem, seval, ↓reduceIte]) (by simp -implicitDefEqProofs only [go_sem, seval, ↓reduceIte]))
  rintro _ h0
  rw [if_neg h0] at hP
  refine AW.seq_k fun K hK => AW.region (by kernel_rfl) ?_
  simp -implicitDefEqProofs only [go_sem, seval, ↓reduceIte]
  refine CallA.pure hG (by kernel_rfl) ?_
  simp -implicitDefEqProofs only [go_sem, seval, ↓reduceIte]
  refine hx.mono ?_
  rintro _ _ rfl
  simp -implicitDefEqProofs only [go_sem, seval, ↓reduceIte, encFr, encXs, recol_xns]
  refine hK _ ?_
  clear hK K
  refine AW.seq_k fun K2 hK2 => ?_
  refine AW.seq_k fun K hK => AW.region (by kernel_rfl) ?_
  simp -implicitDefEqProofs only [go_sem, seval, ↓reduceIte]
  refine hK _ ?_
  clear hK K
  by_cases he : e = 0
  rotate_left
  · have q1 : (e != 0) = true := by simpa using he
    rw [if_pos he] at hP
    refine AW.condS (by simp -implicitDefEqProofs only [go_sem, seval, ↓reduceIte]; rfl) (fun h36 => ?_) (fun h36 => ?_)
    · refine AW.seq_k fun K hK => AW.region (by kernel_rfl) ?_
      simp -implicitDefEqProofs only [go_sem, seval, ↓reduceIte]
      refine hK _ ?_
      clear hK K
      refine AW.ret ?_
      simp -implicitDefEqProofs only [go_sem, seval, ↓reduceIte]
      refine endK_some ?_
      rw [hP]; rfl
    · rw [q1] at h36; cases h36
  have q1 : (e != 0) = false := by simpa using he
  rw [if_neg (by simpa using he)] at hP
  refine AW.condS (by simp -implicitDefEqProofs only [go_sem, seval, ↓reduceIte]; rfl) (fun h36 => ?_) (fun h36 => ?_)
  · rw [q1] at h36; cases h36
  refine AW.skip ?_
  simp -implicitDefEqProofs only [go_sem, seval, ↓reduceIte]
  refine hK2 _ ?_
  refine AW.seq_k fun K3 hK3 => ?_
  refine AW.seq_k fun K hK => AW.region (by kernel_rfl) ?_
  simp -implicitDefEqProofs only [go_sem, seval, ↓reduceIte]
  refine CallA.pure hG (by kernel_rfl) ?_
  simp -implicitDefEqProofs only [go_sem, seval, ↓reduceIte, recol_xns]
  refine (ho _ _).mono ?_
  rintro _ _ rfl
  simp -implicitDefEqProofs only [go_sem, seval, ↓reduceIte, encO3]
  refine hK _ ?_
  clear hK K
  by_cases h2 : e2 = 0
  rotate_left
  · have q2 : (e2 != 0) = true := by simpa using h2
    rw [if_pos (.inl h2)] at hP
    refine AW.seq_k fun K hK => AW.region (by kernel_rfl) ?_
    simp -implicitDefEqProofs only [go_sem, seval, ↓reduceIte, q2]
    refine hK _ ?_
    clear hK K
    refine AW.condS (by simp -implicitDefEqProofs only [go_sem, seval, ↓reduceIte]; rfl) (fun h52 => ?_) (fun h52 => ?_)
    · refine AW.seq_k fun K hK => AW.region (by kernel_rfl) ?_
      simp -implicitDefEqProofs only [go_sem, seval, ↓reduceIte]
      refine hK _ ?_
      clear hK K
      refine AW.ret ?_
      simp -implicitDefEqProofs only [go_sem, seval, ↓reduceIte]
      refine endK_some ?_
      rw [hP]; rfl
    · cases h52
  have q2 : (e2 != 0) = false := by simpa using h2
  by_cases hk : k = 2
  rotate_left
  · have q3 : (k != 2) = true := by simpa using hk
    rw [if_pos (.inr hk)] at hP
    refine AW.seq_k fun K hK => AW.region (by kernel_rfl) ?_
    simp -implicitDefEqProofs only [go_sem, seval, ↓reduceIte, q2, q3]
    refine hK _ ?_
    clear hK K
    refine AW.condS (by simp -implicitDefEqProofs only [go_sem, seval, ↓reduceIte]; rfl) (fun h52 => ?_) (fun h52 => ?_)
    · refine AW.seq_k fun K hK => AW.region (by kernel_rfl) ?_
      simp -implicitDefEqProofs only [go_sem, seval, ↓reduceIte]
      refine hK _ ?_
      clear hK K
      refine AW.ret ?_
      simp -implicitDefEqProofs only [go_sem, seval, ↓reduceIte]
      refine endK_some ?_
      rw [hP]; rfl
    · cases h52
  have q3 : (k != 2) = false := by simpa using hk
  rw [if_neg (by rintro (h | h); exact h h2; exact h hk)] at hP
  refine AW.seq_k fun K hK => AW.region (by kernel_rfl) ?_
  simp -implicitDefEqProofs only [go_sem, seval, ↓reduceIte, q2, q3]
  refine hK _ ?_
  clear hK K
  refine AW.condS (by simp -implicitDefEqProofs only [go_sem, seval, ↓reduceIte]; rfl) (fun h52 => ?_) (fun h52 => ?_)
  · cases h52
  refine AW.skip ?_
  simp -implicitDefEqProofs only [go_sem, seval, ↓reduceIte]
  refine hK3 _ ?_
  refine AW.seq_k fun K hK => AW.region (by kernel_rfl) ?_
  simp -implicitDefEqProofs only [go_sem, seval, ↓reduceIte]
  refine hK _ ?_
  clear hK K
  refine AW.ret ?_
  simp -implicitDefEqProofs only [go_sem, seval, ↓reduceIte]
  refine endK_some ?_
  rw [hP]; rfl
end Go.Hs
end

section
namespace Go.Hs
open Go.Proofs
set_option maxRecDepth 10000
def fewT (l : List XN) (names : List (List UInt8)) : Bool := if l.length > 60 ∨ names.length > 20 then false else names.all (fun n => decide (n.length ≤ 100)) && l.all (fun n => decide (n.name.length ≤ 100))
theorem fewT_true {l : List XN} {names : List (List UInt8)} (h : fewT l names = true) : l.length ≤ 60 ∧ names.length ≤ 20 ∧ (∀ n ∈ names, n.length ≤ 100) ∧ ∀ n ∈ l, n.name.length ≤ 100 := by
  unfold fewT at h
  split at h
  · cases h
  · rename_i h0
    simp only [not_or] at h0
    simp only [Bool.and_eq_true, List.all_eq_true, decide_eq_true_eq] at h
    exact ⟨by omega, by omega, h.1, h.2⟩
theorem all_take_succ {α : Type} (p : α → Bool) {l : List α} {k : Nat} {x : α} (h : l[k]? = some x) (ht : (l.take k).all p = true) (hx : p x = true) : (l.take (k + 1)).all p = true := by
  rw [List.take_add_one, h, List.all_append, ht]; simp [hx]
theorem all_false {α : Type} (p : α → Bool) {l : List α} {k : Nat} {x : α} (h : l[k]? = some x) (hx : p x = false) : l.all p = false := by
  rw [← Bool.not_eq_true, List.all_eq_true]
  intro ha
  rw [ha x (List.mem_of_getElem? h)] at hx
  cases hx
theorem wFew_spec (G : Nat → V) (hG : GOk G) (c c1 : Col) (s : Sl XN) (names : Sl (List UInt8)) :
    Spec Tryz.prog G 14 [.agg [encSl c 6 encXN s], encSl c1 1 V.str names] hNone (fun v _ => v = .bool (fewT s.l names.l)) := by
  refine Spec.of_code' 0 43 [.tmp 4] Tryz.func14 rfl rfl rfl rfl fun X => ?_
  have hP : fewT s.l names.l = if s.l.length > 60 ∨ names.l.length > 20 then false else names.l.all (fun n => decide (n.length ≤ 100)) && s.l.all (fun n => decide (n.name.length ≤ 100)) := rfl
  generalize fewT s.l names.l = res at hP ⊢
  refine AW.seq_k fun K hK => AW.region (by kernel_rfl) ?_
  simp -implicitDefEqProofs only [go_sem, seval, ↓reduceIte]
  intro g2
  refine hK _ ?_
  clear hK K
  refine AW.seq_k fun K1 hK1 => ?_
  by_cases h1 : s.l.length > 60
  · have q1 : decide (((s.l.length : Nat) : Int) > 60) = true := by rw [decide_eq_true_iff]; omega
    rw [if_pos (.inl h1)] at hP
    refine AW.seq_k fun K hK => AW.region (by kernel_rfl) ?_
    simp -implicitDefEqProofs only [go_sem, seval, ↓reduceIte, q1]
    refine hK _ ?_
    clear hK K
    refine AW.condS (by simp -implicitDefEqProofs only [go_sem, seval, ↓reduceIte]; rfl) (fun h15 => ?_) (fun h15 => ?_)
    · refine AW.seq_k fun K hK => AW.region (by kernel_rfl) ?_
      simp -implicitDefEqProofs only [go_sem, seval, ↓reduceIte]
      refine hK _ ?_
      clear hK K
      refine AW.ret ?_
      simp -implicitDefEqProofs only [go_sem, seval, ↓reduceIte]
      refine endK_some ?_
      rw [hP]
    · cases h15
  have q1 : decide (((s.l.length : Nat) : Int) > 60) = false := by rw [decide_eq_false_iff_not]; omega
  by_cases h2 : names.l.length > 20
  · have q2 : decide (((names.l.length : Nat) : Int) > 20) = true := by rw [decide_eq_true_iff]; omega
    rw [if_pos (.inr h2)] at hP
    refine AW.seq_k fun K hK => AW.region (by kernel_rfl) ?_
    simp -implicitDefEqProofs only [go_sem, seval, ↓reduceIte, q1, q2]
    refine hK _ ?_
    clear hK K
    refine AW.condS (by simp -implicitDefEqProofs only [go_sem, seval, ↓reduceIte]; rfl) (fun h15 => ?_) (fun h15 => ?_)
    · refine AW.seq_k fun K hK => AW.region (by kernel_rfl) ?_
      simp -implicitDefEqProofs only [go_sem, seval, ↓reduceIte]
      refine hK _ ?_
      clear hK K
      refine AW.ret ?_
      simp -implicitDefEqProofs only [go_sem, seval, ↓reduceIte]
      refine endK_some ?_
      rw [hP]
    · cases h15
  have q2 : decide (((names.l.length : Nat) : Int) > 20) = false := by rw [decide_eq_false_iff_not]; omega
  rw [if_neg (by rintro (h | h); exact h1 h; exact h2 h)] at hP
  refine AW.seq_k fun K hK => AW.region (by kernel_rfl) ?_
  simp -implicitDefEqProofs only [go_sem, seval, ↓reduceIte, q1, q2]
  refine hK _ ?_
  clear hK K
  refine AW.condS (by simp -implicitDefEqProofs only [go_sem, seval, ↓reduceIte]; rfl) (fun h15 => ?_) (fun h15 => ?_)
  · cases h15
  refine AW.skip ?_
  simp -implicitDefEqProofs only [go_sem, seval, ↓reduceIte]
  refine hK1 _ ?_
  refine AW.seq_k fun K2 hK2 => ?_
  refine AW.seq_k fun K hK => AW.region (by kernel_rfl) ?_
  simp -implicitDefEqProofs only [go_sem, seval, ↓reduceIte]
  refine hK _ ?_
  clear hK K
  refine AW.block ?_
  refine AW.for names.l.length (fun k (_ : Unit) => st [(1, encSl c1 1 V.str names), (2, .ptr 2 g2 0), (5, .int .i64 k)] [(2, .cells .new g2 0 [encSl c 6 encXN s])]) (fun k _ => (names.l.take k).all (fun n => decide (n.length ≤ 100)) = true) 0 () (Nat.zero_le _) rfl
    (Weak.st (by simp -implicitDefEqProofs only [go_sem, seval, ↓reduceIte]; try rfl) (by simp -implicitDefEqProofs only [go_sem, seval, ↓reduceIte])) ?_
  intro k _ hk hR L3 hL3
  refine AW.seq_k fun K4 hK4 => ?_
  refine AW.seq_k fun K hK => AW.region (by kernel_rfl) ?_
  simp -implicitDefEqProofs only [go_sem, seval, ↓reduceIte]
  refine hK _ ?_
  clear hK K
  refine AW.condS (by simp -implicitDefEqProofs only [go_sem, seval, ↓reduceIte]; rfl) (fun h19 => ?_) (fun h19 => ?_)
  · have hk1 : k < names.l.length := by simpa using h19
    have hg := List.getElem?_eq_getElem hk1
    generalize names.l[k] = x at hg
    refine AW.skip ?_
    simp -implicitDefEqProofs only [go_sem, seval, ↓reduceIte]
    refine hK4 _ ?_
    refine AW.seq_k fun K5 hK5 => ?_
    refine AW.block ?_
    refine AW.seq_k fun K hK => AW.region (by kernel_rfl) ?_
    simp -implicitDefEqProofs only [go_sem, seval, ↓reduceIte, hg]
    refine hK _ ?_
    clear hK K
    by_cases hx : x.length > 100
    · have q3 : decide (((x.length : Nat) : Int) > 100) = true := by rw [decide_eq_true_iff]; omega
      rw [all_false _ hg (by simpa using hx), Bool.false_and] at hP
      refine AW.condS (by simp -implicitDefEqProofs only [go_sem, seval, ↓reduceIte]; rfl) (fun h27 => ?_) (fun h27 => ?_)
      · refine AW.seq_k fun K hK => AW.region (by kernel_rfl) ?_
        simp -implicitDefEqProofs only [go_sem, seval, ↓reduceIte]
        refine hK _ ?_
        clear hK K
        refine AW.ret ?_
        simp -implicitDefEqProofs only [go_sem, seval, ↓reduceIte]
        refine endK_some ?_
        rw [hP]
      · rw [q3] at h27; cases h27
    have q3 : decide (((x.length : Nat) : Int) > 100) = false := by rw [decide_eq_false_iff_not]; omega
    refine AW.condS (by simp -implicitDefEqProofs only [go_sem, seval, ↓reduceIte]; rfl) (fun h27 => ?_) (fun h27 => ?_)
    · rw [q3] at h27; cases h27
    refine AW.skip ?_
    simp -implicitDefEqProofs only [go_sem, seval, ↓reduceIte]
    refine hK5 _ ?_
    refine AW.region (by kernel_rfl) ?_
    simp -implicitDefEqProofs only [go_sem, seval, ↓reduceIte]
    exact hL3 _ ⟨hk1, (), all_take_succ _ hg hR (by simpa using hx), Weak.st (by simp -implicitDefEqProofs only [go_sem, seval, ↓reduceIte]; exact congrArg _ (w64 (by omega) (by omega))) (by simp -implicitDefEqProofs only [go_sem, seval, ↓reduceIte])⟩
  have hk1 : k = names.l.length := by simp at h19; omega
  refine AW.exit ?_
  simp -implicitDefEqProofs only [go_sem, seval, ↓reduceIte]
  refine hK2 _ ?_
  rw [hk1, List.take_length] at hR
  rw [hR, Bool.true_and] at hP
  clear hL3 hR hK4 h19 hk
  refine AW.seq_k fun K6 hK6 => ?_
  refine AW.seq_k fun K hK => AW.region (by kernel_rfl) ?_
  simp -implicitDefEqProofs only [go_sem, seval, ↓reduceIte]
  refine hK _ ?_
  clear hK K
  refine AW.block ?_
  refine AW.for s.l.length (fun k (_ : Unit) => st [(2, .ptr 2 g2 0), (6, .int .i64 k)] [(2, .cells .new g2 0 [encSl c 6 encXN s])]) (fun k _ => (s.l.take k).all (fun n => decide (n.name.length ≤ 100)) = true) 0 () (Nat.zero_le _) rfl
    (Weak.st (by simp -implicitDefEqProofs only [go_sem, seval, ↓reduceIte]; try rfl) (by simp -implicitDefEqProofs only [go_sem, seval, ↓reduceIte])) ?_
  clear hk1
  intro k _ hk hR L3 hL3
  refine AW.seq_k fun K4 hK4 => ?_
  refine AW.seq_k fun K hK => AW.region (by kernel_rfl) ?_
  simp -implicitDefEqProofs only [go_sem, seval, ↓reduceIte]
  refine hK _ ?_
  clear hK K
  refine AW.condS (by simp -implicitDefEqProofs only [go_sem, seval, ↓reduceIte]; rfl) (fun h32 => ?_) (fun h32 => ?_)
  · have hk1 : k < s.l.length := by simpa using h32
    have hg := List.getElem?_eq_getElem hk1
    generalize s.l[k] = x at hg
    refine AW.skip ?_
    simp -implicitDefEqProofs only [go_sem, seval, ↓reduceIte]
    refine hK4 _ ?_
    refine AW.seq_k fun K5 hK5 => ?_
    refine AW.block ?_
    refine AW.seq_k fun K hK => AW.region (by kernel_rfl) ?_
    simp -implicitDefEqProofs only [go_sem, seval, ↓reduceIte, hg, encXN_K]
    refine hK _ ?_
    clear hK K
    by_cases hx : x.name.length > 100
    · have q3 : decide (((x.name.length : Nat) : Int) > 100) = true := by rw [decide_eq_true_iff]; omega
      rw [all_false _ hg (by simpa using hx)] at hP
      refine AW.condS (by simp -implicitDefEqProofs only [go_sem, seval, ↓reduceIte]; rfl) (fun h42 => ?_) (fun h42 => ?_)
      · refine AW.seq_k fun K hK => AW.region (by kernel_rfl) ?_
        simp -implicitDefEqProofs only [go_sem, seval, ↓reduceIte]
        refine hK _ ?_
        clear hK K
        refine AW.ret ?_
        simp -implicitDefEqProofs only [go_sem, seval, ↓reduceIte]
        refine endK_some ?_
        rw [hP]
      · rw [q3] at h42; cases h42
    have q3 : decide (((x.name.length : Nat) : Int) > 100) = false := by rw [decide_eq_false_iff_not]; omega
    refine AW.condS (by simp -implicitDefEqProofs only [go_sem, seval, ↓reduceIte]; rfl) (fun h42 => ?_) (fun h42 => ?_)
    · rw [q3] at h42; cases h42
    refine AW.skip ?_
    simp -implicitDefEqProofs only [go_sem, seval, ↓reduceIte]
    refine hK5 _ ?_
    refine AW.region (by kernel_rfl) ?_
    simp -implicitDefEqProofs only [go_sem, seval, ↓reduceIte]
    exact hL3 _ ⟨hk1, (), all_take_succ _ hg hR (by simpa using hx), Weak.st (by simp -implicitDefEqProofs only [go_sem, seval, ↓reduceIte]; exact congrArg _ (w64 (by omega) (by omega))) (by simp -implicitDefEqProofs only [go_sem, seval, ↓reduceIte])⟩
  have hk1 : k = s.l.length := by simp at h32; omega
  refine AW.exit ?_
  simp -implicitDefEqProofs only [go_sem, seval, ↓reduceIte]
  refine hK6 _ ?_
  rw [hk1, List.take_length] at hR
  rw [hR] at hP
  refine AW.seq_k fun K hK => AW.region (by kernel_rfl) ?_
  simp -implicitDefEqProofs only [go_sem, seval, ↓reduceIte]
  refine hK _ ?_
  clear hK K
  refine AW.ret ?_
  simp -implicitDefEqProofs only [go_sem, seval, ↓reduceIte]
  refine endK_some ?_
  rw [hP]
def ofS (s : List UInt8) (names : List (List UInt8)) : Int × Int × Int := if (exprP s).2.2 ≠ 0 then (0, -1, (exprP s).2.2) else ofTP names (exprP s).1
theorem wOf_spec (G : Nat → V) (hE : GExp G) (c1 : Col) (s : List UInt8) (names : Sl (List UInt8)) (hs : s.length < 100000) (hnl : names.l.length < 1000000) :
    Spec Tryz.prog G 48 [.str s, encSl c1 1 V.str names] hNone (fun v _ => v = encO3 (ofS s names.l)) := by
  have hG := hE.ok
  refine Spec.of_code' 0 25 [.tmp 4, .tmp 5, .tmp 6] Tryz.func48 rfl rfl rfl rfl fun X => ?_
  have hP : ofS s names.l = if (exprP s).2.2 ≠ 0 then (0, -1, (exprP s).2.2) else ofTP names.l (exprP s).1 := rfl
  generalize ofS s names.l = res at hP ⊢
  have hx := xParse_spec G hE s hs
  have hb := exprP_bnd hs
  have ho := fun c c1 => tOf_spec G hE c c1 (grownS (exprP s).1) names (by rw [grownS_l]; omega) (by rw [grownS_l]; exact hb.2) hnl
  simp only [grownS_l] at ho
  generalize exprP s = p at hP hx ho
  obtain ⟨ns, i, e⟩ := p
  simp only at hP ho
  refine AW.seq_k fun K hK => AW.region (by kernel_rfl) ?_
  simp -implicitDefEqProofs only [go_sem, seval, ↓reduceIte]
  refine hK _ ?_
  clear hK K
  refine AW.seq_k fun K hK => AW.region (by kernel_rfl) ?_
  simp -implicitDefEqProofs only [go_sem, seval, ↓reduceIte]
  refine CallA.pure hG (by kernel_rfl) ?_
  simp -implicitDefEqProofs only [go_sem, seval, ↓reduceIte]
  refine hx.mono ?_
  rintro _ _ rfl
  simp -implicitDefEqProofs only [go_sem, seval, ↓reduceIte, encFr, encXs, recol_xns]
  intro g7
  refine hK _ ?_
  clear hK K
  refine AW.seq_k fun K2 hK2 => ?_
  refine AW.seq_k fun K hK => AW.region (by kernel_rfl) ?_
  simp -implicitDefEqProofs only [go_sem, seval, ↓reduceIte]
  refine hK _ ?_
  clear hK K
  by_cases he : e = 0
  rotate_left
  · have q1 : (e != 0) = true := by simpa using he
    rw [if_pos he] at hP
    refine AW.condS (by simp -implicitDefEqProofs only [go_sem, seval, ↓reduceIte]; rfl) (fun h17 => ?_) (fun h17 => ?_)
    · refine AW.seq_k fun K hK => AW.region (by kernel_rfl) ?_
      simp -implicitDefEqProofs only [go_sem, seval, ↓reduceIte]
      refine hK _ ?_
      clear hK K
      refine AW.ret ?_
      simp -implicitDefEqProofs only [go_sem, seval, ↓reduceIte]
      refine endK_some ?_
      rw [hP]; rfl
    · rw [q1] at h17; cases h17
  have q1 : (e != 0) = false := by simpa using he
  rw [if_neg (by simpa using he)] at hP
  refine AW.condS (by simp -implicitDefEqProofs only [go_sem, seval, ↓reduceIte]; rfl) (fun h17 => ?_) (fun h17 => ?_)
  · rw [q1] at h17; cases h17
  refine AW.skip ?_
  simp -implicitDefEqProofs only [go_sem, seval, ↓reduceIte]
  refine hK2 _ ?_
  refine AW.seq_k fun K hK => AW.region (by kernel_rfl) ?_
  simp -implicitDefEqProofs only [go_sem, seval, ↓reduceIte]
  refine CallA.pure hG (by kernel_rfl) ?_
  simp -implicitDefEqProofs only [go_sem, seval, ↓reduceIte, recol_xns]
  refine (ho _ _).mono ?_
  rintro _ _ rfl
  simp -implicitDefEqProofs only [go_sem, seval, ↓reduceIte, encO3]
  refine hK _ ?_
  clear hK K
  refine AW.ret ?_
  simp -implicitDefEqProofs only [go_sem, seval, ↓reduceIte]
  refine endK_some ?_
  rw [hP]; rfl
theorem wWorks_spec (G : Nat → V) (hE : GExp G) : Spec Tryz.prog G 15 [] hNone (fun v _ => v = .bool true) := by
  have hG := hE.ok
  refine Spec.of_code' 0 139 [.tmp 0] Tryz.func15 rfl rfl rfl rfl fun X => ?_
  have flO : ∀ p, (encO3 p).Fl := fun p => .tuple _ fun x hx => by
    simp only [List.mem_cons, List.not_mem_nil, or_false] at hx
    rcases hx with rfl | rfl | rfl <;> exact .int _ _
  refine AW.seq_k fun K hK => AW.region (by kernel_rfl) ?_
  simp -implicitDefEqProofs only [go_sem, seval, ↓reduceIte]
  refine hK _ ?_
  clear hK K
  refine AW.seq_k fun K hK => AW.region (by kernel_rfl) ?_
  simp -implicitDefEqProofs only [go_sem, seval, ↓reduceIte]
  intro g26
  refine CallA.bor hG [.str [120, 32, 43, 32, 49], encSl .old 1 V.str (.mk false [[120]])] (by kernel_rfl) ⟨Rd.im (.str _) rfl, Rd.msl (off := 0) (n := 1) (l := [[120]]) (f := V.str) (f' := V.str) (g := g26) (fz := 0) (c := .new) (by simp -implicitDefEqProofs only [go_sem, seval, ↓reduceIte]; rfl) (fun _ => rfl) (fun x y hy => by simp [V.cells] at hy; subst hy; exact .str _) (fun _ => rfl) (by decide), trivial⟩ ?_
  refine (wOf_spec G hE .old [120, 32, 43, 32, 49] (.mk false [[120]]) (by decide) (by decide)).mono ?_
  rintro _ _ rfl
  rw [show ofS [120, 32, 43, 32, 49] (Sl.mk false [[120]]).l = (1, 0, 0) from by decide +kernel]
  refine ⟨?_, ?_⟩
  · exact flO _
  simp -implicitDefEqProofs only [go_sem, seval, ↓reduceIte, encO3]
  refine hK _ ?_
  clear hK K
  refine AW.seq_k fun K hK => AW.region (by kernel_rfl) ?_
  simp -implicitDefEqProofs only [go_sem, seval, ↓reduceIte]
  intro g32
  refine CallA.bor hG [.str [120, 32, 60, 32, 49], encSl .old 1 V.str (.mk false [[120]])] (by kernel_rfl) ⟨Rd.im (.str _) rfl, Rd.msl (off := 0) (n := 1) (l := [[120]]) (f := V.str) (f' := V.str) (g := g32) (fz := 0) (c := .new) (by simp -implicitDefEqProofs only [go_sem, seval, ↓reduceIte]; rfl) (fun _ => rfl) (fun x y hy => by simp [V.cells] at hy; subst hy; exact .str _) (fun _ => rfl) (by decide), trivial⟩ ?_
  refine (wOf_spec G hE .old [120, 32, 60, 32, 49] (.mk false [[120]]) (by decide) (by decide)).mono ?_
  rintro _ _ rfl
  rw [show ofS [120, 32, 60, 32, 49] (Sl.mk false [[120]]).l = (2, 0, 0) from by decide +kernel]
  refine ⟨?_, ?_⟩
  · exact flO _
  simp -implicitDefEqProofs only [go_sem, seval, ↓reduceIte, encO3]
  refine hK _ ?_
  clear hK K
  refine AW.seq_k fun K hK => AW.region (by kernel_rfl) ?_
  simp -implicitDefEqProofs only [go_sem, seval, ↓reduceIte]
  intro g38
  refine CallA.bor hG [.str [105, 102, 32, 116, 114, 117, 101, 32, 116, 104, 101, 110, 32, 120, 32, 101, 108, 115, 101, 32, 49, 32, 101, 110, 100, 105, 102], encSl .old 1 V.str (.mk false [[120]])] (by kernel_rfl) ⟨Rd.im (.str _) rfl, Rd.msl (off := 0) (n := 1) (l := [[120]]) (f := V.str) (f' := V.str) (g := g38) (fz := 0) (c := .new) (by simp -implicitDefEqProofs only [go_sem, seval, ↓reduceIte]; rfl) (fun _ => rfl) (fun x y hy => by simp [V.cells] at hy; subst hy; exact .str _) (fun _ => rfl) (by decide), trivial⟩ ?_
  refine (wOf_spec G hE .old [105, 102, 32, 116, 114, 117, 101, 32, 116, 104, 101, 110, 32, 120, 32, 101, 108, 115, 101, 32, 49, 32, 101, 110, 100, 105, 102] (.mk false [[120]]) (by decide) (by decide)).mono ?_
  rintro _ _ rfl
  rw [show ofS [105, 102, 32, 116, 114, 117, 101, 32, 116, 104, 101, 110, 32, 120, 32, 101, 108, 115, 101, 32, 49, 32, 101, 110, 100, 105, 102] (Sl.mk false [[120]]).l = (1, 0, 0) from by decide +kernel]
  refine ⟨?_, ?_⟩
  · exact flO _
  simp -implicitDefEqProofs only [go_sem, seval, ↓reduceIte, encO3]
  refine hK _ ?_
  clear hK K
  refine AW.seq_k fun K hK => AW.region (by kernel_rfl) ?_
  simp -implicitDefEqProofs only [go_sem, seval, ↓reduceIte]
  intro g44
  refine CallA.bor hG [.str [120, 32, 43, 32, 116, 114, 117, 101], encSl .old 1 V.str (.mk false [[120]])] (by kernel_rfl) ⟨Rd.im (.str _) rfl, Rd.msl (off := 0) (n := 1) (l := [[120]]) (f := V.str) (f' := V.str) (g := g44) (fz := 0) (c := .new) (by simp -implicitDefEqProofs only [go_sem, seval, ↓reduceIte]; rfl) (fun _ => rfl) (fun x y hy => by simp [V.cells] at hy; subst hy; exact .str _) (fun _ => rfl) (by decide), trivial⟩ ?_
  refine (wOf_spec G hE .old [120, 32, 43, 32, 116, 114, 117, 101] (.mk false [[120]]) (by decide) (by decide)).mono ?_
  rintro _ _ rfl
  rw [show ofS [120, 32, 43, 32, 116, 114, 117, 101] (Sl.mk false [[120]]).l = (0, 2, 90) from by decide +kernel]
  refine ⟨?_, ?_⟩
  · exact flO _
  simp -implicitDefEqProofs only [go_sem, seval, ↓reduceIte, encO3]
  refine hK _ ?_
  clear hK K
  refine AW.seq_k fun K hK => AW.region (by kernel_rfl) ?_
  simp -implicitDefEqProofs only [go_sem, seval, ↓reduceIte]
  intro g50
  refine CallA.bor hG [.str [121], encSl .old 1 V.str (.mk false [[120]])] (by kernel_rfl) ⟨Rd.im (.str _) rfl, Rd.msl (off := 0) (n := 1) (l := [[120]]) (f := V.str) (f' := V.str) (g := g50) (fz := 0) (c := .new) (by simp -implicitDefEqProofs only [go_sem, seval, ↓reduceIte]; rfl) (fun _ => rfl) (fun x y hy => by simp [V.cells] at hy; subst hy; exact .str _) (fun _ => rfl) (by decide), trivial⟩ ?_
  refine (wOf_spec G hE .old [121] (.mk false [[120]]) (by decide) (by decide)).mono ?_
  rintro _ _ rfl
  rw [show ofS [121] (Sl.mk false [[120]]).l = (0, 0, 90) from by decide +kernel]
  refine ⟨?_, ?_⟩
  · exact flO _
  simp -implicitDefEqProofs only [go_sem, seval, ↓reduceIte, encO3]
  refine hK _ ?_
  clear hK K
  refine AW.seq_k fun K hK => AW.region (by kernel_rfl) ?_
  simp -implicitDefEqProofs only [go_sem, seval, ↓reduceIte]
  refine CallA.pure hG (by kernel_rfl) ?_
  simp -implicitDefEqProofs only [go_sem, seval, ↓reduceIte]
  refine (tGuard_spec G hE .old [] (.nil) (by decide) (by decide)).mono ?_
  rintro _ _ rfl
  rw [show guardP [] (Sl.nil : Sl (List UInt8)).l = ([tr1], 0, 0) from by decide +kernel]
  simp -implicitDefEqProofs only [go_sem, seval, ↓reduceIte, encFr, encXs, recol_xns]
  intro g16
  refine hK _ ?_
  clear hK K
  refine AW.seq_k fun K hK => AW.region (by kernel_rfl) ?_
  simp -implicitDefEqProofs only [go_sem, seval, ↓reduceIte]
  intro g61
  refine CallA.bor hG [.str [120, 32, 43, 32, 49], encSl .old 1 V.str (.mk false [[120]])] (by kernel_rfl) ⟨Rd.im (.str _) rfl, Rd.msl (off := 0) (n := 1) (l := [[120]]) (f := V.str) (f' := V.str) (g := g61) (fz := 0) (c := .new) (by simp -implicitDefEqProofs only [go_sem, seval, ↓reduceIte]; rfl) (fun _ => rfl) (fun x y hy => by simp [V.cells] at hy; subst hy; exact .str _) (fun _ => rfl) (by decide), trivial⟩ ?_
  refine (tGuard_spec G hE .old [120, 32, 43, 32, 49] (.mk false [[120]]) (by decide) (by decide)).mono ?_
  rintro _ _ rfl
  rw [show guardP [120, 32, 43, 32, 49] (Sl.mk false [[120]]).l = ([], 0, 90) from by decide +kernel]
  refine ⟨?_, ?_⟩
  · refine .tuple _ fun x hx => ?_
    simp only [List.mem_cons, List.not_mem_nil, or_false] at hx
    rcases hx with rfl | rfl | rfl
    · exact .agg _ fun x hx => by rw [List.mem_singleton.1 hx]; exact .nils
    · exact .int _ _
    · exact .int _ _
  simp -implicitDefEqProofs only [go_sem, seval, ↓reduceIte, encFr, encXs, recol_xns]
  intro g19
  refine hK _ ?_
  clear hK K
  refine AW.seq_k fun K hK => AW.region (by kernel_rfl) ?_
  simp -implicitDefEqProofs only [go_sem, seval, ↓reduceIte]
  refine CallA.pure hG (by kernel_rfl) ?_
  simp -implicitDefEqProofs only [go_sem, seval, ↓reduceIte]
  refine (tGuard_spec G hE .old [120, 32, 61, 32] (.nil) (by decide) (by decide)).mono ?_
  rintro _ _ rfl
  rw [show guardP [120, 32, 61, 32] (Sl.nil : Sl (List UInt8)).l = ([], 4, 80) from by decide +kernel]
  simp -implicitDefEqProofs only [go_sem, seval, ↓reduceIte, encFr, encXs, recol_xns]
  intro g22
  refine hK _ ?_
  clear hK K
  have g1 : (grownS [tr1]).l[0]? = some tr1 := rfl
  have l1 : (((grownS [tr1]).l.length : Nat) : Int) = 1 := rfl
  have l2 : 0 < (grownS [tr1]).l.length := by decide
  have e1 : encXN tr1 = .agg [.int .u8 3, .int .i64 0, .str [], .int .i64 (-1), .int .i64 (-1), .int .i64 (-1)] := rfl
  have ta : ∀ l : List Oper, l.toArray = (⟨l⟩ : Array Oper) := fun l => rfl
  simp -implicitDefEqProofs only [ta, List.append_eq, List.cons_append, List.nil_append]
  refine AW.seq_k fun K hK => AW.region (by kernel_rfl) ?_
  simp -implicitDefEqProofs only [go_sem, seval, ↓reduceIte, g1, e1, l1, l2]
  refine hK _ ?_
  clear hK K
  refine AW.ret ?_
  simp -implicitDefEqProofs only [go_sem, seval, ↓reduceIte]
  refine endK_some ?_
  rfl
end Go.Hs
end

section
namespace Go.Hs
theorem goX_ok {names : List (List UInt8)} : ∀ (l : List X) (i : Int) (acc : List Int), (goX names l i acc).2.2 = 0 → (∀ y ∈ l, kindX names y ≠ 0) ∧ goX names l i acc = (acc ++ l.map (kindX names), 0, 0)
  | [], i, acc, _ => ⟨fun y hy => (by cases hy), by simp [goX]⟩
  | y :: r, i, acc, h => by
    rw [goX] at h ⊢
    by_cases h1 : kindX names y = 0
    · rw [if_pos h1] at h; cases h
    · rw [if_neg h1] at h ⊢
      obtain ⟨h2, h3⟩ := goX_ok r (i + 1) _ h
      refine ⟨fun z hz => ?_, by rw [h3]; simp⟩
      cases hz with
      | head => exact h1
      | tail _ hz => exact h2 z hz
theorem goX_all {names : List (List UInt8)} : ∀ (l : List X) (i : Int) (acc : List Int), (∀ y ∈ l, kindX names y ≠ 0) → goX names l i acc = (acc ++ l.map (kindX names), 0, 0)
  | [], i, acc, _ => by simp [goX]
  | y :: r, i, acc, h => by
    rw [goX, if_neg (h y (by simp)), goX_all r _ _ fun z hz => h z (by simp [hz])]
    simp
theorem goX_none {names : List (List UInt8)} : ∀ (l : List X) (i : Int) (acc : List Int), (∃ y ∈ l, kindX names y = 0) → (goX names l i acc).1 = [] ∧ (goX names l i acc).2.2 = 90
  | [], i, acc, h => by obtain ⟨y, hy, _⟩ := h; cases hy
  | y :: r, i, acc, h => by
    rw [goX]
    by_cases h1 : kindX names y = 0
    · rw [if_pos h1]; exact ⟨rfl, rfl⟩
    · rw [if_neg h1]
      refine goX_none r _ _ ?_
      obtain ⟨z, hz, hz2⟩ := h
      cases hz with
      | head => exact absurd hz2 h1
      | tail _ hz => exact ⟨z, hz, hz2⟩
theorem mem_subs {x y : X} (h : y ∈ subs x) : ∃ b, Sub x y b := by
  obtain ⟨i, hi, e⟩ := List.mem_iff_getElem.1 h
  obtain ⟨z, b, h1, h2, h3, h4⟩ := sub_at x i (by rw [← subs_len]; exact hi)
  rw [List.getElem?_eq_getElem hi, e] at h3
  cases h3
  exact ⟨b, h1⟩
theorem Sub.mem {x y : X} {b : Nat} (h : Sub x y b) : y ∈ subs x := List.mem_of_getElem? h.get
def shiftN (b : Int) (n : XN) : XN := { n with a := max (-1) (n.a - b), b := max (-1) (n.b - b), c := max (-1) (n.c - b) }
theorem row_shift : ∀ (y : X) (b c : Int), 0 ≤ b → 0 ≤ c → (y.row (b + c)).map (shiftN b) = y.row c
  | .leaf op num name, b, c, hb, hc => by
    have : max (-1) (-1 - b) = (-1 : Int) := by omega
    simp only [X.row, List.map_cons, List.map_nil, shiftN, this]
  | .un op a, b, c, hb, hc => by
    have e1 : max (-1) (-1 - b) = (-1 : Int) := by omega
    have hp := a.size_pos
    have e2 : max (-1) (b + c + a.size - 1 - b) = c + a.size - 1 := by omega
    simp only [X.row, List.map_append, List.map_cons, List.map_nil, shiftN, e1, e2, row_shift a b c hb hc]
  | .bin op x y, b, c, hb, hc => by
    have e1 : max (-1) (-1 - b) = (-1 : Int) := by omega
    have hp := x.size_pos
    have hp2 := y.size_pos
    have e2 : max (-1) (b + c + x.size - 1 - b) = c + x.size - 1 := by omega
    have e3 : max (-1) (b + c + x.size + y.size - 1 - b) = c + x.size + y.size - 1 := by omega
    have i2 := row_shift y b (c + x.size) hb (by omega)
    rw [← Int.add_assoc] at i2
    simp only [X.row, List.map_append, List.map_cons, List.map_nil, shiftN, e1, e2, e3, row_shift x b c hb hc, i2]
  | .ite x y z, b, c, hb, hc => by
    have hp := x.size_pos
    have hp2 := y.size_pos
    have hp3 := z.size_pos
    have e2 : max (-1) (b + c + x.size - 1 - b) = c + x.size - 1 := by omega
    have e3 : max (-1) (b + c + x.size + y.size - 1 - b) = c + x.size + y.size - 1 := by omega
    have e4 : max (-1) (b + c + x.size + y.size + z.size - 1 - b) = c + x.size + y.size + z.size - 1 := by omega
    have i2 := row_shift y b (c + x.size) hb (by omega)
    rw [← Int.add_assoc] at i2
    have i3 := row_shift z b (c + x.size + y.size) hb (by omega)
    rw [← Int.add_assoc, ← Int.add_assoc] at i3
    simp only [X.row, List.map_append, List.map_cons, List.map_nil, shiftN, e2, e3, e4, row_shift x b c hb hc, i2, i3]
theorem Sub.shift {x y : X} {b : Nat} (h : Sub x y b) : (((x.row 0).drop b).take y.size).map (shiftN b) = y.row 0 := by
  obtain ⟨pre, post, e, hb⟩ := h.at (At.whole x)
  rw [Nat.zero_add] at hb e
  have hl : (y.row ((b : Nat) : Int)).length = y.size := y.row_len _
  have ht : ((x.row 0).drop b).take y.size = y.row (b : Nat) := by
    rw [e, List.append_assoc, ← hb, List.drop_left, ← hl, hb, List.take_left]
  rw [ht]
  have := row_shift y b 0 (by omega) (by omega)
  rw [Int.add_zero] at this
  exact this
end Go.Hs
end

section
namespace Go.Hs
open Go.Proofs
set_option maxRecDepth 10000
theorem checkP_row {x : X} (h : x.ok = true) : checkP (x.row 0) = if x.depth > 64 then 3 else 0 := by
  have hd := depth_row h
  have hp := x.depth_pos
  unfold checkP
  rw [hd, if_neg (by omega)]
  by_cases h2 : x.depth > 64
  · rw [if_pos (by omega), if_pos h2]
  · rw [if_neg (by omega), if_neg h2]
theorem kindsP_row {names : List (List UInt8)} {x : X} (h : x.ok = true) (hc : checkP (x.row 0) = 0) : kindsP names (x.row 0) = goX names (subs x) 0 [] := by
  unfold kindsP
  rw [if_neg (by simpa using hc)]
  have := goN_goX (names := names) x x.size 0 (by omega)
  simp only [List.drop_zero, List.take_zero, List.map_nil] at this
  exact this
theorem kindsP_tree {names : List (List UInt8)} {l : List XN} (h : (kindsP names l).2.2 = 0) : ∃ x : X, x.ok = true ∧ l = x.row 0 ∧ checkP (x.row 0) = 0 ∧ (∀ y ∈ subs x, kindX names y ≠ 0) ∧ kindsP names l = ((subs x).map (kindX names), 0, 0) := by
  have hc : checkP l = 0 := by
    unfold kindsP at h
    by_cases hc : checkP l = 0
    · exact hc
    · rw [if_pos hc] at h; exact absurd h hc
  have hdep : depthP l ≠ 0 := by
    intro hd
    rw [checkP, if_pos hd] at hc
    cases hc
  obtain ⟨x, hx, rfl⟩ := depth_none hdep
  rw [kindsP_row hx hc] at h ⊢
  obtain ⟨h1, h2⟩ := goX_ok _ _ _ h
  exact ⟨x, hx, rfl, hc, h1, h2⟩
theorem part_ok {names : List (List UInt8)} {x y : X} {b : Nat} (hx : x.ok = true) (hc : checkP (x.row 0) = 0) (hk : ∀ y ∈ subs x, kindX names y ≠ 0) (h : Sub x y b) : ofTP names (y.row 0) = (kindX names y, 0, 0) := by
  have hy := h.ok hx
  have hcy : checkP (y.row 0) = 0 := by
    rw [checkP_row hx] at hc
    rw [checkP_row hy]
    have := h.depth
    by_cases h2 : x.depth > 64
    · rw [if_pos h2] at hc; cases hc
    · rw [if_neg (by omega)]
  have hg : kindsP names (y.row 0) = ((subs y).map (kindX names), 0, 0) := by
    rw [kindsP_row hy hcy, goX_all _ _ _ fun z hz => ?_]
    · rfl
    · obtain ⟨c, hc2⟩ := mem_subs hz
      exact hk z (h.trans hc2).mem
  unfold ofTP
  rw [hg, if_neg (by simp)]
  have hl : ((subs y).map (kindX names)).length = y.size := by rw [List.length_map, subs_len]
  show (((subs y).map (kindX names)).getD (((subs y).map (kindX names)).length - 1) 0, (0 : Int), (0 : Int)) = _
  rw [hl, List.getD_eq_getElem?_getD, List.getElem?_map, subs_top]; rfl
end Go.Hs
end

section
namespace Go.Hs
theorem kd_named {op : Int} (h : op ≠ 2) (nm nm' : Bool) (a b c : Int) : kd op nm a b c = kd op nm' a b c := by
  unfold kd
  simp [h]
theorem kd_two (nm : Bool) (a b c : Int) : kd 2 nm a b c = if nm = true then 1 else 0 := by
  unfold kd
  cases nm <;> simp
def NmIn (x : X) (t : List UInt8) : Prop := ∃ num, X.leaf 2 num t ∈ subs x
theorem kindX_congr {N M : List (List UInt8)} : ∀ x : X, (∀ t, NmIn x t → N.contains t = M.contains t) → x.ok = true → kindX N x = kindX M x
  | .leaf op num name, h, _ => by
    rw [kindX, kindX]
    by_cases h2 : op = 2
    · subst h2; rw [h name ⟨num, by simp [subs]⟩]
    · exact kd_named h2 _ _ _ _ _
  | .un op a, h, hx => by
    simp only [X.ok, Bool.and_eq_true, decide_eq_true_eq] at hx
    rw [kindX, kindX, kindX_congr a (fun t ⟨n, q⟩ => h t ⟨n, by simp [subs, q]⟩) hx.2]
    exact kd_named (by omega) _ _ _ _ _
  | .bin op a b, h, hx => by
    simp only [X.ok, Bool.and_eq_true, decide_eq_true_eq] at hx
    rw [kindX, kindX, kindX_congr a (fun t ⟨n, q⟩ => h t ⟨n, by simp [subs, q]⟩) hx.1.2, kindX_congr b (fun t ⟨n, q⟩ => h t ⟨n, by simp [subs, q]⟩) hx.2]
    exact kd_named (by omega) _ _ _ _ _
  | .ite a b c, h, hx => by
    simp only [X.ok, Bool.and_eq_true] at hx
    rw [kindX, kindX, kindX_congr a (fun t ⟨n, q⟩ => h t ⟨n, by simp [subs, q]⟩) hx.1.1, kindX_congr b (fun t ⟨n, q⟩ => h t ⟨n, by simp [subs, q]⟩) hx.1.2, kindX_congr c (fun t ⟨n, q⟩ => h t ⟨n, by simp [subs, q]⟩) hx.2]
    exact kd_named (by decide) _ _ _ _ _
theorem NmIn.sub {x y : X} {b : Nat} (h : Sub x y b) {t : List UInt8} (ht : NmIn y t) : NmIn x t := by
  obtain ⟨n, q⟩ := ht
  obtain ⟨c, hc⟩ := mem_subs q
  exact ⟨n, (h.trans hc).mem⟩
theorem named_of {N : List (List UInt8)} {x : X} (h : ∀ y ∈ subs x, kindX N y ≠ 0) {t : List UInt8} (ht : NmIn x t) : N.contains t = true := by
  obtain ⟨n, q⟩ := ht
  have := h _ q
  rw [kindX, kd_two] at this
  by_cases hc : N.contains t = true
  · exact hc
  · rw [if_neg hc] at this; exact absurd rfl this
theorem kinds_more {N M : List (List UInt8)} {x : X} (hx : x.ok = true) (h : ∀ y ∈ subs x, kindX N y ≠ 0) (hM : ∀ t, NmIn x t → M.contains t = true) : ∀ y ∈ subs x, kindX M y = kindX N y := by
  intro y hy
  obtain ⟨b, hb⟩ := mem_subs hy
  refine kindX_congr y (fun t ht => ?_) (hb.ok hx)
  rw [hM t (ht.sub hb), named_of h (ht.sub hb)]
def addNm (acc : List (List UInt8)) (n : XN) : List (List UInt8) := if n.op = 2 ∧ acc.contains n.name = false then acc ++ [n.name] else acc
def namesL (l : List XN) : List (List UInt8) := l.foldl addNm []
theorem addNm_mem {acc : List (List UInt8)} {n : XN} {t : List UInt8} : t ∈ addNm acc n ↔ t ∈ acc ∨ n.op = 2 ∧ n.name = t := by
  unfold addNm
  by_cases h : n.op = 2 ∧ acc.contains n.name = false
  · rw [if_pos h]
    simp only [List.mem_append, List.mem_singleton]
    constructor
    · rintro (q | q)
      · exact .inl q
      · exact .inr ⟨h.1, q.symm⟩
    · rintro (q | ⟨_, q⟩)
      · exact .inl q
      · exact .inr q.symm
  · rw [if_neg h]
    refine ⟨.inl, ?_⟩
    rintro (q | ⟨q1, q⟩)
    · exact q
    · by_cases hc : acc.contains n.name = true
      · rw [← q]; simpa using hc
      · exact absurd ⟨q1, by simpa using hc⟩ h
theorem addNm_nodup {acc : List (List UInt8)} {n : XN} (h : acc.Nodup) : (addNm acc n).Nodup := by
  unfold addNm
  split
  · rename_i q
    rw [List.nodup_append]
    refine ⟨h, by simp, ?_⟩
    intro a ha b hb
    rw [List.mem_singleton] at hb
    subst hb
    rintro rfl
    have := q.2
    rw [List.contains_eq_mem] at this
    simp at this
    exact this ha
  · exact h
theorem foldNm_mem {t : List UInt8} : ∀ (l : List XN) (acc : List (List UInt8)), t ∈ l.foldl addNm acc ↔ t ∈ acc ∨ ∃ n ∈ l, n.op = 2 ∧ n.name = t
  | [], acc => by simp
  | n :: r, acc => by
    rw [List.foldl_cons, foldNm_mem r, addNm_mem]
    constructor
    · rintro ((h | h) | ⟨m, h1, h2⟩)
      · exact .inl h
      · exact .inr ⟨n, by simp, h⟩
      · exact .inr ⟨m, by simp [h1], h2⟩
    · rintro (h | ⟨m, h1, h2⟩)
      · exact .inl (.inl h)
      · cases h1 with
        | head => exact .inl (.inr h2)
        | tail _ h1 => exact .inr ⟨m, h1, h2⟩
theorem foldNm_nodup : ∀ (l : List XN) (acc : List (List UInt8)), acc.Nodup → (l.foldl addNm acc).Nodup
  | [], acc, h => h
  | n :: r, acc, h => foldNm_nodup r _ (addNm_nodup h)
theorem addNm_len (acc : List (List UInt8)) (n : XN) : (addNm acc n).length ≤ acc.length + 1 := by
  unfold addNm; split <;> simp
theorem foldNm_len : ∀ (l : List XN) (acc : List (List UInt8)), (l.foldl addNm acc).length ≤ acc.length + l.length
  | [], acc => by simp
  | n :: r, acc => by
    rw [List.foldl_cons]
    have := foldNm_len r (addNm acc n)
    have := addNm_len acc n
    simp only [List.length_cons]; omega
theorem namesL_take {l : List XN} {k : Nat} {n : XN} (h : l[k]? = some n) : namesL (l.take (k + 1)) = addNm (namesL (l.take k)) n := by
  unfold namesL
  rw [List.take_add_one, h, List.foldl_append]; rfl
theorem names_tree {x : X} (hx : x.ok = true) {t : List UInt8} : t ∈ namesL (x.row 0) ↔ NmIn x t := by
  unfold namesL
  rw [foldNm_mem]
  constructor
  · rintro (h | ⟨n, h1, h2, h3⟩)
    · cases h
    · obtain ⟨i, hi, e⟩ := List.mem_iff_getElem.1 h1
      obtain ⟨y, b, q1, q2, q3, q4⟩ := sub_at x i (by rw [← X.row_len x 0]; exact hi)
      rw [List.getElem?_eq_getElem hi, e] at q4
      cases q4
      cases y with
      | leaf op num name =>
        simp only [X.top] at h2 h3
        subst h2; subst h3
        exact ⟨num, q1.mem⟩
      | un op a =>
        have := q1.ok hx
        simp only [X.ok, Bool.and_eq_true, decide_eq_true_eq] at this
        simp only [X.top] at h2; omega
      | bin op a c =>
        have := q1.ok hx
        simp only [X.ok, Bool.and_eq_true, decide_eq_true_eq] at this
        simp only [X.top] at h2; omega
      | ite a c d => simp only [X.top] at h2; exact absurd h2 (by decide)
  · rintro ⟨num, h⟩
    obtain ⟨b, hb⟩ := mem_subs h
    refine .inr ⟨_, List.mem_of_getElem? hb.top, ?_, ?_⟩ <;> rfl
end Go.Hs
end

section
namespace Go.Hs
open Go.Proofs
set_option maxRecDepth 10000
theorem ofTP_tree {N : List (List UInt8)} {x : X} (hx : x.ok = true) (hc : checkP (x.row 0) = 0) (h : ∀ y ∈ subs x, kindX N y ≠ 0) : ofTP N (x.row 0) = (kindX N x, 0, 0) :=
  part_ok hx hc h (.refl x)
theorem top_mem (x : X) : x ∈ subs x := (Sub.refl x).mem
theorem ofTP_with {N M : List (List UInt8)} {x : X} (hx : x.ok = true) (hc : checkP (x.row 0) = 0) (h : ∀ y ∈ subs x, kindX N y ≠ 0) (hM : ∀ t, NmIn x t → M.contains t = true) : ofTP M (x.row 0) = (kindX N x, 0, 0) := by
  have hm := kinds_more hx h hM
  rw [ofTP_tree hx hc fun y hy => by rw [hm y hy]; exact h y hy, hm x (top_mem x)]
theorem ofTP_append {N M : List (List UInt8)} {x : X} (hx : x.ok = true) (hc : checkP (x.row 0) = 0) (h : ∀ y ∈ subs x, kindX N y ≠ 0) : ofTP (M ++ N) (x.row 0) = (kindX N x, 0, 0) :=
  ofTP_with hx hc h fun t ht => by
    have := named_of h ht
    simp only [List.contains_eq_mem, List.mem_append, decide_eq_true_eq] at this ⊢
    exact .inr this
def namesP (l : List XN) : List (List UInt8) := if depthP l = 0 then [] else namesL l
theorem namesP_row {x : X} (hx : x.ok = true) : namesP (x.row 0) = namesL (x.row 0) := by
  unfold namesP
  rw [if_neg]
  rw [depth_row hx]
  have := x.depth_pos
  omega
theorem ofTP_own {N : List (List UInt8)} {x : X} (hx : x.ok = true) (hc : checkP (x.row 0) = 0) (h : ∀ y ∈ subs x, kindX N y ≠ 0) : ofTP (namesP (x.row 0)) (x.row 0) = (kindX N x, 0, 0) :=
  ofTP_with hx hc h fun t ht => by
    rw [namesP_row hx]
    have := (names_tree hx).2 ht
    simpa using this
theorem less_not {l : List (List UInt8)} (h : l.Nodup) {i : Nat} {t : List UInt8} (hi : l[i]? = some t) : t ∉ l.take i ++ l.drop (i + 1) := by
  obtain ⟨hl, e⟩ := List.getElem?_eq_some_iff.1 hi
  have hs : l = l.take i ++ (t :: l.drop (i + 1)) := by
    rw [← e]; simp
  rw [hs] at h
  rw [List.nodup_append] at h
  obtain ⟨h1, h2, h3⟩ := h
  intro hm
  rcases List.mem_append.1 hm with q | q
  · exact h3 _ q _ (by simp) rfl
  · rw [List.nodup_cons] at h2
    exact h2.1 q
theorem ofTP_less {x : X} (hx : x.ok = true) (hc : checkP (x.row 0) = 0) {i : Nat} {t : List UInt8} (hi : (namesP (x.row 0))[i]? = some t) : (ofTP ((namesP (x.row 0)).take i ++ (namesP (x.row 0)).drop (i + 1)) (x.row 0)).2.2 = 90 := by
  have hnd : (namesP (x.row 0)).Nodup := by rw [namesP_row hx]; exact foldNm_nodup _ _ (by simp)
  have hno := less_not hnd hi
  have hin : NmIn x t := (names_tree hx).1 (by rw [← namesP_row hx]; exact List.mem_of_getElem? hi)
  generalize (namesP (x.row 0)).take i ++ (namesP (x.row 0)).drop (i + 1) = N at hno ⊢
  obtain ⟨num, hm⟩ := hin
  have h0 : kindX N (.leaf 2 num t) = 0 := by
    rw [kindX, kd_two, if_neg]
    simpa using hno
  have hb := goX_none (names := N) (subs x) 0 [] ⟨_, hm, h0⟩
  have hk := kindsP_row (names := N) hx hc
  unfold ofTP
  rw [hk, if_pos (by rw [hb.2]; decide)]
  exact hb.2
theorem kindX_12 {N : List (List UInt8)} {x : X} (h : kindX N x ≠ 0) : kindX N x = 1 ∨ kindX N x = 2 := by
  have := kindX_range N x
  omega
theorem namesP_len (l : List XN) : (namesP l).length ≤ l.length := by
  unfold namesP
  split
  · exact Nat.zero_le _
  · have := foldNm_len l []
    simpa [namesL] using this
end Go.Hs
end

section
namespace Go.Hs
open Go.Proofs
set_option maxRecDepth 10000
theorem tNames_spec (G : Nat → V) (hE : GExp G) (c : Col) (s : Sl XN) (hs : s.l.length < 1000000) (hnm : ∀ n ∈ s.l, n.name.length < 100000) :
    Spec Tryz.prog G 26 [.agg [encSl c 6 encXN s]] hNone (fun v _ => v = encSl .new 1 V.str (grownS (namesP s.l))) := by
  have hG := hE.ok
  refine Spec.of_code' 0 33 [.tmp 2] Tryz.func26 rfl rfl rfl rfl fun X => ?_
  have hP : namesP s.l = if depthP s.l = 0 then [] else namesL s.l := rfl
  have hC : checkP s.l = if depthP s.l = 0 then 2 else if depthP s.l > 64 then 3 else 0 := rfl
  generalize namesP s.l = res at hP ⊢
  refine AW.seq_k fun K hK => AW.region (by kernel_rfl) ?_
  simp -implicitDefEqProofs only [go_sem, seval, ↓reduceIte]
  intro g1
  refine hK _ ?_
  clear hK K
  refine AW.seq_k fun K hK => AW.region (by kernel_rfl) ?_
  simp -implicitDefEqProofs only [go_sem, seval, ↓reduceIte]
  refine hK _ ?_
  clear hK K
  refine AW.seq_k fun K1 hK1 => ?_
  refine AW.seq_k fun K hK => AW.region (by kernel_rfl) ?_
  simp -implicitDefEqProofs only [go_sem, seval, ↓reduceIte]
  refine CallA.pure hG (by kernel_rfl) ?_
  simp -implicitDefEqProofs only [go_sem, seval, ↓reduceIte, recol_xns]
  refine (xCheck_spec G hE _ s hs hnm).mono ?_
  rintro _ _ rfl
  simp -implicitDefEqProofs only [go_sem, seval, ↓reduceIte]
  refine hK _ ?_
  clear hK K
  by_cases hd : depthP s.l = 0
  · rw [if_pos hd] at hP hC
    rw [hC]
    refine AW.condS (by simp -implicitDefEqProofs only [go_sem, seval, ↓reduceIte]; rfl) (fun h8 => ?_) (fun h8 => ?_)
    · refine AW.seq_k fun K hK => AW.region (by kernel_rfl) ?_
      simp -implicitDefEqProofs only [go_sem, seval, ↓reduceIte]
      refine hK _ ?_
      clear hK K
      refine AW.ret ?_
      simp -implicitDefEqProofs only [go_sem, seval, ↓reduceIte]
      refine endK_some ?_
      rw [hP]; rfl
    · cases h8
  rw [if_neg hd] at hP
  have e8 : (checkP s.l == 2) = false := by
    rw [hC, if_neg hd]
    split <;> rfl
  rw [e8]
  refine AW.condS (by simp -implicitDefEqProofs only [go_sem, seval, ↓reduceIte]; rfl) (fun h8 => ?_) (fun h8 => ?_)
  · cases h8
  refine AW.skip ?_
  simp -implicitDefEqProofs only [go_sem, seval, ↓reduceIte]
  refine hK1 _ ?_
  clear hC e8
  refine AW.seq_k fun K2 hK2 => ?_
  refine AW.seq_k fun K hK => AW.region (by kernel_rfl) ?_
  simp -implicitDefEqProofs only [go_sem, seval, ↓reduceIte]
  refine hK _ ?_
  clear hK K
  refine AW.block ?_
  refine AW.for s.l.length (fun k (gx : Nat) => st [(3, grown 30 gx 1 (namesL (s.l.take k))), (10, encSl c 6 encXN s), (11, .int .i64 s.l.length), (12, .int .i64 k)] [(30, grownO gx V.str (namesL (s.l.take k)))])
    (fun k _ => True) 0 0 (Nat.zero_le _) trivial (Weak.st (by simp -implicitDefEqProofs only [go_sem, seval, ↓reduceIte]; try rfl) (by simp -implicitDefEqProofs only [go_sem, seval, ↓reduceIte]; try rfl)) ?_
  intro k gx hk _ L3 hL3
  refine AW.seq_k fun K4 hK4 => ?_
  refine AW.region (by kernel_rfl) ?_
  simp -implicitDefEqProofs only [go_sem, seval, ↓reduceIte]
  refine hK4 _ ?_
  refine AW.seq_k fun K5 hK5 => ?_
  refine AW.condS (by simp -implicitDefEqProofs only [go_sem, seval, ↓reduceIte]; rfl) (fun h13 => ?_) (fun h13 => ?_)
  · have hk1 : k < s.l.length := by simpa using h13
    have hg := List.getElem?_eq_getElem hk1
    have hst := namesL_take hg
    have hlen : (namesL (s.l.take k)).length ≤ k := by
      have := foldNm_len (s.l.take k) []
      rw [List.length_take] at this
      simp only [List.length_nil, Nat.zero_add] at this
      show (List.foldl addNm [] (s.l.take k)).length ≤ k
      omega
    generalize s.l[k] = n at hg hst
    generalize namesL (s.l.take k) = ns at hst hlen ⊢
    have hA : addNm ns n = if n.op = 2 ∧ ns.contains n.name = false then ns ++ [n.name] else ns := rfl
    refine AW.skip ?_
    simp -implicitDefEqProofs only [go_sem, seval, ↓reduceIte]
    refine hK5 _ ?_
    refine AW.seq_k fun K6 hK6 => ?_
    refine AW.block ?_
    refine AW.seq_k fun K hK => AW.region (by kernel_rfl) ?_
    simp -implicitDefEqProofs only [go_sem, seval, ↓reduceIte, hg, encXN_K]
    intro g5
    refine hK _ ?_
    clear hK K
    by_cases ho : n.op = 2
    rotate_left
    · have e1 : (n.op == 2) = false := by simpa using ho
      rw [if_neg (fun h => ho h.1)] at hA
      refine AW.seq_k fun K hK => AW.region (by kernel_rfl) ?_
      simp -implicitDefEqProofs only [go_sem, seval, ↓reduceIte, e1]
      refine hK _ ?_
      clear hK K
      refine AW.condS (by simp -implicitDefEqProofs only [go_sem, seval, ↓reduceIte]; rfl) (fun h25 => ?_) (fun h25 => ?_)
      · cases h25
      refine AW.skip ?_
      simp -implicitDefEqProofs only [go_sem, seval, ↓reduceIte]
      refine hK6 _ ?_
      refine AW.region (by kernel_rfl) ?_
      simp -implicitDefEqProofs only [go_sem, seval, ↓reduceIte]
      refine hL3 _ ⟨hk1, gx, trivial, Weak.st (by rw [hst, hA]; simp -implicitDefEqProofs only [go_sem, seval, ↓reduceIte]; exact congrArg _ (w64 (by omega) (by omega))) (by rw [hst, hA]; simp -implicitDefEqProofs only [go_sem, seval, ↓reduceIte]; try rfl)⟩
    have e1 : (n.op == 2) = true := by simpa using ho
    refine AW.seq_k fun K hK => AW.region (by kernel_rfl) ?_
    simp -implicitDefEqProofs only [go_sem, seval, ↓reduceIte, e1]
    refine CallA.bor hG [encSl .old 1 V.str (grownS ns), .str n.name] (by kernel_rfl) ⟨?_, Rd.im (.str _) rfl, trivial⟩ ?_
    · exact Rd.grown (g := gx) (f := V.str) (f' := V.str) (by simp -implicitDefEqProofs only [go_sem, seval, ↓reduceIte]; try rfl) (fun _ => rfl) (fun x y hy => by simp [V.cells] at hy; subst hy; exact .str _) (fun _ => rfl)
    refine (sContains_spec G hG _ n.name (grownS ns) (by rw [grownS_l]; omega)).mono ?_
    rintro _ _ rfl
    refine ⟨.bool _, ?_⟩
    rw [grownS_l]
    simp -implicitDefEqProofs only [go_sem, seval, ↓reduceIte]
    refine hK _ ?_
    clear hK K
    cases hc : ns.contains n.name with
    | true =>
      rw [hc, if_neg (by simp)] at hA
      refine AW.condS (by simp -implicitDefEqProofs only [go_sem, seval, ↓reduceIte]; rfl) (fun h25 => ?_) (fun h25 => ?_)
      · cases h25
      refine AW.skip ?_
      simp -implicitDefEqProofs only [go_sem, seval, ↓reduceIte]
      refine hK6 _ ?_
      refine AW.region (by kernel_rfl) ?_
      simp -implicitDefEqProofs only [go_sem, seval, ↓reduceIte]
      refine hL3 _ ⟨hk1, gx, trivial, Weak.st (by rw [hst, hA]; simp -implicitDefEqProofs only [go_sem, seval, ↓reduceIte]; exact congrArg _ (w64 (by omega) (by omega))) (by rw [hst, hA]; simp -implicitDefEqProofs only [go_sem, seval, ↓reduceIte]; try rfl)⟩
    | false =>
      rw [hc, if_pos ⟨ho, rfl⟩] at hA
      refine AW.condS (by simp -implicitDefEqProofs only [go_sem, seval, ↓reduceIte]; rfl) (fun h25 => ?_) (fun h25 => ?_)
      rotate_left
      · cases h25
      refine AW.region (by kernel_rfl) ?_
      simp -implicitDefEqProofs only [go_sem, seval, ↓reduceIte]
      intro g29
      refine app_grown (f := V.str) (l := ns) (l2 := [n.name]) (g := gx) (fun _ => rfl) rfl rfl rfl (by simp -implicitDefEqProofs only [go_sem, seval, ↓reduceIte]; try rfl) (roomOk_of (by omega) (by simp; omega)) fun g2 => ?_
      simp -implicitDefEqProofs only [go_sem, seval, ↓reduceIte]
      refine hK6 _ ?_
      refine AW.region (by kernel_rfl) ?_
      simp -implicitDefEqProofs only [go_sem, seval, ↓reduceIte]
      refine hL3 _ ⟨hk1, g2, trivial, Weak.st (by rw [hst, hA]; simp -implicitDefEqProofs only [go_sem, seval, ↓reduceIte]; exact congrArg _ (w64 (by omega) (by omega))) (by rw [hst, hA]; simp -implicitDefEqProofs only [go_sem, seval, ↓reduceIte]; try rfl)⟩
  · have hk1 : k = s.l.length := by simp at h13; omega
    refine AW.exit ?_
    simp -implicitDefEqProofs only [go_sem, seval, ↓reduceIte]
    refine hK2 _ ?_
    rw [hk1, List.take_length]
    refine AW.weak (Weak.stF (fun o => o == 30) (l := [(3, encSl .new 1 V.str (grownS (namesL s.l)))]) (m := []) ?_ trivial) ?_
    · simp -implicitDefEqProofs only [go_sem, seval, ↓reduceIte]
      exact Fz.grown rfl rfl (fun _ => rfl)
    refine AW.seq_k fun K hK => AW.region (by kernel_rfl) ?_
    simp -implicitDefEqProofs only [go_sem, seval, ↓reduceIte]
    refine hK _ ?_
    clear hK K
    refine AW.ret ?_
    simp -implicitDefEqProofs only [go_sem, seval, ↓reduceIte]
    refine endK_some ?_
    rw [hP]
end Go.Hs
end

section
namespace Go.Hs
open Go.Proofs
set_option maxRecDepth 10000
theorem flat_strs (l : List (List UInt8)) : flat (l.map V.str) = l.map V.str := by
  induction l with
  | nil => rfl
  | cons x r ih => unfold flat at ih ⊢; rw [List.map_cons, List.flatMap_cons, ih]; rfl
theorem srcCells_strs (H : Heap) (c : Col) (s : Sl (List UInt8)) : srcCells H 1 (encSl c 1 V.str s) = some (s.l.length, flat (s.l.map V.str)) := by
  rw [flat_strs]
  cases s with
  | nil => rfl
  | mk b l => simp [encSl, srcCells, flat_strs, Sl.l]
theorem kindsP_ofTP {names : List (List UInt8)} {l : List XN} (h : (ofTP names l).2.2 = 0) : (kindsP names l).2.2 = 0 := by
  unfold ofTP at h
  by_cases q : (kindsP names l).2.2 = 0
  · exact q
  · rw [if_pos q] at h; exact h
theorem ofTP_bad {names : List (List UInt8)} {l : List XN} (h : (ofTP names l).2.2 ≠ 0) : (ofTP names l).1 = 0 := by
  unfold ofTP at h ⊢
  by_cases q : (kindsP names l).2.2 = 0
  · rw [if_neg (by simpa using q)] at h; exact absurd rfl h
  · rw [if_pos q]
theorem lTypesMore (G : Nat → V) (hE : GExp G) (s : Sl XN) (names more : Sl (List UInt8)) :
    Spec Tryz.prog G 6 [.agg [encSl .old 6 encXN s], encSl .old 1 V.str names, encSl .old 1 V.str more] hNone (fun v _ => v = .bool true) := by
  have hG := hE.ok
  refine Spec.of_code' 0 121 [.tmp 6] Tryz.func6 rfl rfl rfl rfl fun X0 => ?_
  refine AW.seq_k fun K hK => AW.region (by kernel_rfl) ?_
  simp -implicitDefEqProofs only [go_sem, seval, ↓reduceIte]
  intro g3
  refine hK _ ?_
  clear hK K
  refine AW.seqJ (fun (_ : Unit) => st [(1, encSl .old 1 V.str names), (2, encSl .old 1 V.str more), (3, .ptr 3 g3 0)] [(3, .cells .new g3 0 [encSl .old 6 encXN s])]) (fun _ => fewT s.l names.l = true ∧ fewT s.l more.l = true) (fun K1 hK1 => ?_) ?_
  · cases hf : fewT s.l names.l with
    | false =>
      refine AW.seq_k fun K hK => AW.region (by kernel_rfl) ?_
      simp -implicitDefEqProofs only [go_sem, seval, ↓reduceIte]
      refine CallA.pure hG (by kernel_rfl) ?_
      simp -implicitDefEqProofs only [go_sem, seval, ↓reduceIte, recol_xns]
      refine (wFew_spec G hG _ _ s names).mono ?_
      rintro _ _ rfl
      rw [hf]
      simp -implicitDefEqProofs only [go_sem, seval, ↓reduceIte]
      refine hK _ ?_
      clear hK K
      refine AW.condS (by simp -implicitDefEqProofs only [go_sem, seval, ↓reduceIte]; rfl) (fun h27 => ?_) (fun h27 => ?_)
      · refine AW.seq_k fun K hK => AW.region (by kernel_rfl) ?_
        simp -implicitDefEqProofs only [go_sem, seval, ↓reduceIte]
        refine CallA.pure hG (by kernel_rfl) ?_
        simp -implicitDefEqProofs only [go_sem, seval, ↓reduceIte, List.map_nil]
        refine (wWorks_spec G hE).mono ?_
        rintro _ _ rfl
        simp -implicitDefEqProofs only [go_sem, seval, ↓reduceIte]
        refine hK _ ?_
        clear hK K
        refine AW.ret ?_
        simp -implicitDefEqProofs only [go_sem, seval, ↓reduceIte]
        refine endK_some ?_
        rfl
      · cases h27
    | true =>
      refine AW.seq_k fun K hK => AW.region (by kernel_rfl) ?_
      simp -implicitDefEqProofs only [go_sem, seval, ↓reduceIte]
      refine CallA.pure hG (by kernel_rfl) ?_
      simp -implicitDefEqProofs only [go_sem, seval, ↓reduceIte, recol_xns]
      refine (wFew_spec G hG _ _ s names).mono ?_
      rintro _ _ rfl
      rw [hf]
      simp -implicitDefEqProofs only [go_sem, seval, ↓reduceIte]
      refine CallA.pure hG (by kernel_rfl) ?_
      simp -implicitDefEqProofs only [go_sem, seval, ↓reduceIte, recol_xns]
      refine (wFew_spec G hG _ _ s more).mono ?_
      rintro _ _ rfl
      cases hf2 : fewT s.l more.l with
      | false =>
        simp -implicitDefEqProofs only [go_sem, seval, ↓reduceIte]
        refine hK _ ?_
        clear hK K
        refine AW.condS (by simp -implicitDefEqProofs only [go_sem, seval, ↓reduceIte]; rfl) (fun h27 => ?_) (fun h27 => ?_)
        · refine AW.seq_k fun K hK => AW.region (by kernel_rfl) ?_
          simp -implicitDefEqProofs only [go_sem, seval, ↓reduceIte]
          refine CallA.pure hG (by kernel_rfl) ?_
          simp -implicitDefEqProofs only [go_sem, seval, ↓reduceIte, List.map_nil]
          refine (wWorks_spec G hE).mono ?_
          rintro _ _ rfl
          simp -implicitDefEqProofs only [go_sem, seval, ↓reduceIte]
          refine hK _ ?_
          clear hK K
          refine AW.ret ?_
          simp -implicitDefEqProofs only [go_sem, seval, ↓reduceIte]
          refine endK_some ?_
          rfl
        · cases h27
      | true =>
        simp -implicitDefEqProofs only [go_sem, seval, ↓reduceIte]
        refine hK _ ?_
        clear hK K
        refine AW.condS (by simp -implicitDefEqProofs only [go_sem, seval, ↓reduceIte]; rfl) (fun h27 => ?_) (fun h27 => ?_)
        · cases h27
        refine AW.skip ?_
        simp -implicitDefEqProofs only [go_sem, seval, ↓reduceIte]
        exact hK1 _ () ⟨hf, hf2⟩ (Weak.st (by simp -implicitDefEqProofs only [go_sem, seval, ↓reduceIte]; try rfl) (by simp -implicitDefEqProofs only [go_sem, seval, ↓reduceIte]; try rfl))
  rintro _ ⟨hf, hf2⟩
  obtain ⟨hl1, hl2, hl3, hl4⟩ := fewT_true hf
  obtain ⟨_, hm2, hm3, _⟩ := fewT_true hf2
  have hs : s.l.length < 1000000 := by omega
  have hnm : ∀ n ∈ s.l, n.name.length < 100000 := fun n hn => by have := hl4 n hn; omega
  have hO := fun c c1 (N : Sl (List UInt8)) (h : N.l.length < 1000000) => tOf_spec G hE c c1 s N hs hnm h
  have hbad := ofTP_bad (names := names.l) (l := s.l)
  have hgood := kindsP_ofTP (names := names.l) (l := s.l)
  refine AW.seq_k fun K hK => AW.region (by kernel_rfl) ?_
  simp -implicitDefEqProofs only [go_sem, seval, ↓reduceIte]
  refine CallA.pure hG (by kernel_rfl) ?_
  simp -implicitDefEqProofs only [go_sem, seval, ↓reduceIte, recol_xns]
  refine (hO _ _ names (by omega)).mono ?_
  rintro _ _ rfl
  generalize hp : ofTP names.l s.l = p at hbad hgood ⊢
  obtain ⟨k, wi, we⟩ := p
  simp only at hbad hgood
  simp -implicitDefEqProofs only [go_sem, seval, ↓reduceIte, encO3]
  refine hK _ ?_
  clear hK K
  refine AW.seq_k fun K2 hK2 => ?_
  refine AW.seq_k fun K hK => AW.region (by kernel_rfl) ?_
  simp -implicitDefEqProofs only [go_sem, seval, ↓reduceIte]
  refine hK _ ?_
  clear hK K
  by_cases he : we = 0
  rotate_left
  · have q1 : (we != 0) = true := by simpa using he
    have hk0 := hbad he
    subst hk0
    rw [q1]
    refine AW.condS (by simp -implicitDefEqProofs only [go_sem, seval, ↓reduceIte]; rfl) (fun h42 => ?_) (fun h42 => ?_)
    rotate_left
    · cases h42
    refine AW.seq_k fun K hK => AW.region (by kernel_rfl) ?_
    simp -implicitDefEqProofs only [go_sem, seval, ↓reduceIte]
    refine CallA.pure hG (by kernel_rfl) ?_
    simp -implicitDefEqProofs only [go_sem, seval, ↓reduceIte, List.map_nil]
    refine (wWorks_spec G hE).mono ?_
    rintro _ _ rfl
    simp -implicitDefEqProofs only [go_sem, seval, ↓reduceIte]
    refine hK _ ?_
    clear hK K
    refine AW.ret ?_
    simp -implicitDefEqProofs only [go_sem, seval, ↓reduceIte]
    refine endK_some ?_
    rfl
  subst he
  refine AW.condS (by simp -implicitDefEqProofs only [go_sem, seval, ↓reduceIte]; rfl) (fun h42 => ?_) (fun h42 => ?_)
  · cases h42
  refine AW.skip ?_
  simp -implicitDefEqProofs only [go_sem, seval, ↓reduceIte]
  refine hK2 _ ?_
  obtain ⟨x, hx, hl, hc, hkx, hW⟩ := kindsP_tree (hgood rfl)
  have hall : ofTP (more.l ++ names.l) s.l = (kindX names.l x, 0, 0) := by rw [hl]; exact ofTP_append hx hc hkx
  have hown : ofTP (namesP s.l) s.l = (kindX names.l x, 0, 0) := by rw [hl]; exact ofTP_own hx hc hkx
  have hless : ∀ i t, (namesP s.l)[i]? = some t → (ofTP ((namesP s.l).take i ++ (namesP s.l).drop (i + 1)) s.l).2.2 = 90 := by
    intro i t h
    rw [hl] at h ⊢
    exact ofTP_less hx hc h
  have hk : k = kindX names.l x := by
    have := ofTP_tree hx hc hkx
    rw [← hl, hp] at this
    exact congrArg Prod.fst this
  have hk12 := kindX_12 (hkx x (top_mem x))
  rw [← hk] at hall hown hk12
  clear hk hW hkx hc hx hgood hbad
  have hown1 := namesP_len s.l
  refine AW.seq_k fun K hK => AW.region (by kernel_rfl) ?_
  simp -implicitDefEqProofs only [go_sem, seval, ↓reduceIte]
  refine hK _ ?_
  clear hK K
  refine AW.seq_k fun K hK => AW.region (by kernel_rfl) ?_
  simp -implicitDefEqProofs only [go_sem, seval, ↓reduceIte, srcCells_strs]
  refine app_grown (f := V.str) (l := ([] : List (List UInt8))) (l2 := more.l) (g := 0) (fun _ => rfl) rfl rfl rfl (by simp -implicitDefEqProofs only [go_sem, seval, ↓reduceIte]; try rfl) (roomOk_of (by omega) (by simp; omega)) fun ga => ?_
  rw [List.nil_append]
  simp -implicitDefEqProofs only [go_sem, seval, ↓reduceIte]
  refine hK _ ?_
  clear hK K
  refine AW.seq_k fun K hK => AW.region (by kernel_rfl) ?_
  simp -implicitDefEqProofs only [go_sem, seval, ↓reduceIte, srcCells_strs]
  refine app_grown2 (f := V.str) (l := more.l) (l2 := names.l) (o := 50) (g := ga) (fun _ => rfl) rfl rfl rfl (by simp -implicitDefEqProofs only [go_sem, seval, ↓reduceIte]; try rfl) (roomOk_of (by omega) (by omega)) fun o2 gb ho2 => ?_
  have ho2 : o2 = 50 ∨ o2 = 53 := ho2
  have hne3 : o2 ≠ 3 := by omega
  have hNl : (more.l ++ names.l).length < 1000000 := by rw [List.length_append]; omega
  generalize more.l ++ names.l = N at hall hNl
  simp -implicitDefEqProofs only [go_sem, seval, ↓reduceIte]
  refine hK _ ?_
  clear hK K
  have hF3 : (decide (o2 = 3)) = false := by simpa using hne3
  refine AW.weak (Weak.stF (fun o => decide (o2 = o)) (l := [(3, .ptr 3 g3 0), (7, .int .u8 k), (10, encSl .new 1 V.str (grownS N))]) (m := [(3, .cells .new g3 0 [encSl .old 6 encXN s])]) ?_ ?_) ?_
  · simp -implicitDefEqProofs only [go_sem, seval, ↓reduceIte]
    exact ⟨Fz.same _, Fz.same _, Fz.grown (by simp) (by simp -implicitDefEqProofs only [go_sem, seval, ↓reduceIte]; try rfl) (fun _ => rfl)⟩
  · simp only [allFzO_cons, allFzO_nil, and_true]
    exact FzO.keep hF3 (by simp -implicitDefEqProofs only [go_sem, seval, ↓reduceIte, hne3, hne3.symm]; try rfl)
  have hO1 := fun c c1 => hO c c1 (grownS N) (by rw [grownS_l]; exact hNl)
  have hO2 := fun c c1 => hO c c1 (grownS (namesP s.l)) (by rw [grownS_l]; omega)
  simp only [grownS_l, hall, hown] at hO1 hO2
  refine AW.seq_k fun K hK => AW.region (by kernel_rfl) ?_
  simp -implicitDefEqProofs only [go_sem, seval, ↓reduceIte]
  refine CallA.pure hG (by kernel_rfl) ?_
  simp -implicitDefEqProofs only [go_sem, seval, ↓reduceIte, recol_xns]
  refine (hO1 _ _).mono ?_
  rintro _ _ rfl
  simp -implicitDefEqProofs only [go_sem, seval, ↓reduceIte, encO3]
  refine hK _ ?_
  clear hK K
  refine AW.seq_k fun K hK => AW.region (by kernel_rfl) ?_
  simp -implicitDefEqProofs only [go_sem, seval, ↓reduceIte]
  refine CallA.pure hG (by kernel_rfl) ?_
  simp -implicitDefEqProofs only [go_sem, seval, ↓reduceIte, recol_xns]
  refine (tNames_spec G hE _ s hs hnm).mono ?_
  rintro _ _ rfl
  simp -implicitDefEqProofs only [go_sem, seval, ↓reduceIte]
  refine hK _ ?_
  clear hK K
  refine AW.seq_k fun K hK => AW.region (by kernel_rfl) ?_
  simp -implicitDefEqProofs only [go_sem, seval, ↓reduceIte]
  refine CallA.pure hG (by kernel_rfl) ?_
  simp -implicitDefEqProofs only [go_sem, seval, ↓reduceIte, recol_xns]
  refine (hO2 _ _).mono ?_
  rintro _ _ rfl
  simp -implicitDefEqProofs only [go_sem, seval, ↓reduceIte, encO3]
  refine hK _ ?_
  clear hK K
  refine AW.seqJ (fun (_ : Unit) => st [(3, .ptr 3 g3 0), (14, encSl .new 1 V.str (grownS (namesP s.l)))] [(3, .cells .new g3 0 [encSl .old 6 encXN s])]) (fun _ => True) (fun K4 hK4 => ?_) ?_
  · clear hO1 hO2 hall hown hp
    rcases hk12 with rfl | rfl
    · refine AW.seq_k fun K hK => AW.region (by kernel_rfl) ?_
      simp -implicitDefEqProofs only [go_sem, seval, ↓reduceIte]
      refine hK _ ?_
      clear hK K
      refine AW.condS (by simp -implicitDefEqProofs only [go_sem, seval, ↓reduceIte]; rfl) (fun h93 => ?_) (fun h93 => ?_)
      · cases h93
      refine AW.skip ?_
      simp -implicitDefEqProofs only [go_sem, seval, ↓reduceIte]
      exact hK4 _ () trivial (Weak.st (by simp -implicitDefEqProofs only [go_sem, seval, ↓reduceIte]; try rfl) (by simp -implicitDefEqProofs only [go_sem, seval, ↓reduceIte]; try rfl))
    · refine AW.seq_k fun K hK => AW.region (by kernel_rfl) ?_
      simp -implicitDefEqProofs only [go_sem, seval, ↓reduceIte]
      refine hK _ ?_
      clear hK K
      refine AW.condS (by simp -implicitDefEqProofs only [go_sem, seval, ↓reduceIte]; rfl) (fun h93 => ?_) (fun h93 => ?_)
      · cases h93
      refine AW.skip ?_
      simp -implicitDefEqProofs only [go_sem, seval, ↓reduceIte]
      exact hK4 _ () trivial (Weak.st (by simp -implicitDefEqProofs only [go_sem, seval, ↓reduceIte]; try rfl) (by simp -implicitDefEqProofs only [go_sem, seval, ↓reduceIte]; try rfl))
  intro _ _
  generalize namesP s.l = own at hless hown1
  refine AW.seq_k fun K5 hK5 => ?_
  refine AW.seq_k fun K hK => AW.region (by kernel_rfl) ?_
  simp -implicitDefEqProofs only [go_sem, seval, ↓reduceIte]
  refine hK _ ?_
  clear hK K
  refine AW.block ?_
  refine AW.for own.length (fun i (_ : Unit) => st [(3, .ptr 3 g3 0), (14, encSl .new 1 V.str (grownS own)), (18, .int .i64 i)] [(3, .cells .new g3 0 [encSl .old 6 encXN s])])
    (fun _ _ => True) 0 () (Nat.zero_le _) trivial (Weak.st (by simp -implicitDefEqProofs only [go_sem, seval, ↓reduceIte]; try rfl) (by simp -implicitDefEqProofs only [go_sem, seval, ↓reduceIte]; try rfl)) ?_
  intro i _ hi _ L6 hL6
  refine AW.seq_k fun K7 hK7 => ?_
  refine AW.seq_k fun K hK => AW.region (by kernel_rfl) ?_
  simp -implicitDefEqProofs only [go_sem, seval, ↓reduceIte]
  refine hK _ ?_
  clear hK K
  refine AW.condS (by simp -implicitDefEqProofs only [go_sem, seval, ↓reduceIte]; rfl) (fun h97 => ?_) (fun h97 => ?_)
  · have hi1 : i < own.length := by simpa using h97
    have hg := List.getElem?_eq_getElem hi1
    have h90 := hless i _ hg
    refine AW.skip ?_
    simp -implicitDefEqProofs only [go_sem, seval, ↓reduceIte]
    refine hK7 _ ?_
    refine AW.seq_k fun K8 hK8 => ?_
    refine AW.block ?_
    have hi0 : i ≤ own.length := hi
    have hi2 : i + 1 ≤ own.length := hi1
    have hw1 : IntKind.i64.wrap ((i : Int) + 1) = ((i + 1 : Nat) : Int) := by rw [w64 (by omega) (by omega)]; omega
    have ht1 : own.take (i - 0) = own.take i := rfl
    have ht2 : (own.drop (i + 1)).take (own.length - (i + 1)) = own.drop (i + 1) := List.take_of_length_le (by rw [List.length_drop]; omega)
    have hlt : (own.take i).length ≤ 60 := by rw [List.length_take]; omega
    have hld : (own.drop (i + 1)).length ≤ 60 := by rw [List.length_drop]; omega
    refine AW.seq_k fun K hK => AW.region (by kernel_rfl) ?_
    simp -implicitDefEqProofs only [go_sem, seval, ↓reduceIte]
    refine hK _ ?_
    clear hK K
    refine AW.seq_k fun K hK => AW.region (by kernel_rfl) ?_
    simp -implicitDefEqProofs only [go_sem, seval, ↓reduceIte, hi0, Nat.zero_le]
    refine app_grown (f := V.str) (l := ([] : List (List UInt8))) (l2 := own.take (i - 0)) (g := 0) (fun _ => rfl) rfl rfl rfl (by simp -implicitDefEqProofs only [go_sem, seval, ↓reduceIte]; try rfl) (roomOk_of (by omega) (by simp; omega)) fun ga => ?_
    rw [List.nil_append, ht1]
    simp -implicitDefEqProofs only [go_sem, seval, ↓reduceIte]
    refine hK _ ?_
    clear hK K
    refine AW.seq_k fun K hK => AW.region (by kernel_rfl) ?_
    simp -implicitDefEqProofs only [go_sem, seval, ↓reduceIte, hw1, hi2, Nat.le_refl]
    refine app_grown2 (f := V.str) (l := own.take i) (l2 := (own.drop (i + 1)).take (own.length - (i + 1))) (o := 104) (g := ga) (fun _ => rfl) rfl rfl rfl (by simp -implicitDefEqProofs only [go_sem, seval, ↓reduceIte]; try rfl) (roomOk_of (by omega) (by rw [ht2]; omega)) fun o2 gb ho2 => ?_
    have ho2 : o2 = 104 ∨ o2 = 110 := ho2
    have hne3 : o2 ≠ 3 := by omega
    have hF3 : (decide (o2 = 3)) = false := by simpa using hne3
    have hll : (own.take i ++ own.drop (i + 1)).length < 1000000 := by rw [List.length_append]; omega
    rw [ht2]
    generalize own.take i ++ own.drop (i + 1) = less at h90 hll
    simp -implicitDefEqProofs only [go_sem, seval, ↓reduceIte]
    refine hK _ ?_
    clear hK K
    refine AW.weak (Weak.stF (fun o => decide (o2 = o)) (l := [(3, .ptr 3 g3 0), (14, encSl .new 1 V.str (grownS own)), (18, .int .i64 i), (19, encSl .new 1 V.str (grownS less))]) (m := [(3, .cells .new g3 0 [encSl .old 6 encXN s])]) ?_ ?_) ?_
    · simp -implicitDefEqProofs only [go_sem, seval, ↓reduceIte]
      exact ⟨Fz.same _, Fz.same _, Fz.same _, Fz.grown (by simp) (by simp -implicitDefEqProofs only [go_sem, seval, ↓reduceIte]; try rfl) (fun _ => rfl)⟩
    · simp only [allFzO_cons, allFzO_nil, and_true]
      exact FzO.keep hF3 (by simp -implicitDefEqProofs only [go_sem, seval, ↓reduceIte, hne3, hne3.symm]; try rfl)
    have hO3 := fun c c1 => hO c c1 (grownS less) (by rw [grownS_l]; exact hll)
    simp only [grownS_l] at hO3
    generalize ofTP less s.l = p3 at hO3 h90
    obtain ⟨k3, j3, e3⟩ := p3
    simp only at h90
    subst h90
    refine AW.seq_k fun K hK => AW.region (by kernel_rfl) ?_
    simp -implicitDefEqProofs only [go_sem, seval, ↓reduceIte]
    refine CallA.pure hG (by kernel_rfl) ?_
    simp -implicitDefEqProofs only [go_sem, seval, ↓reduceIte, recol_xns]
    refine (hO3 _ _).mono ?_
    rintro _ _ rfl
    simp -implicitDefEqProofs only [go_sem, seval, ↓reduceIte, encO3]
    refine hK _ ?_
    clear hK K
    refine AW.seq_k fun K hK => AW.region (by kernel_rfl) ?_
    simp -implicitDefEqProofs only [go_sem, seval, ↓reduceIte]
    refine hK _ ?_
    clear hK K
    refine AW.condS (by simp -implicitDefEqProofs only [go_sem, seval, ↓reduceIte]; rfl) (fun h119 => ?_) (fun h119 => ?_)
    · cases h119
    refine AW.skip ?_
    simp -implicitDefEqProofs only [go_sem, seval, ↓reduceIte]
    refine hK8 _ ?_
    refine AW.region (by kernel_rfl) ?_
    simp -implicitDefEqProofs only [go_sem, seval, ↓reduceIte]
    exact hL6 _ ⟨hi1, (), trivial, Weak.st (by simp -implicitDefEqProofs only [go_sem, seval, ↓reduceIte]; exact congrArg _ (w64 (by omega) (by omega))) (by simp -implicitDefEqProofs only [go_sem, seval, ↓reduceIte]; try rfl)⟩
  · refine AW.exit ?_
    simp -implicitDefEqProofs only [go_sem, seval, ↓reduceIte]
    refine hK5 _ ?_
    refine AW.seq_k fun K hK => AW.region (by kernel_rfl) ?_
    simp -implicitDefEqProofs only [go_sem, seval, ↓reduceIte]
    refine CallA.pure hG (by kernel_rfl) ?_
    simp -implicitDefEqProofs only [go_sem, seval, ↓reduceIte, List.map_nil]
    refine (wWorks_spec G hE).mono ?_
    rintro _ _ rfl
    simp -implicitDefEqProofs only [go_sem, seval, ↓reduceIte]
    refine hK _ ?_
    clear hK K
    refine AW.ret ?_
    simp -implicitDefEqProofs only [go_sem, seval, ↓reduceIte]
    refine endK_some ?_
    rfl
end Go.Hs
end

section
namespace Go.Proofs.YtpoiceejhcpnaaaGreatDoor
open Go.RowKit Go.Hs
set_option maxRecDepth 100000
def laidAll : List (String × DataW Unit) := [("math/bits.deBruijn32tab", Rows.laid_math_bits_deBruijn32tab), ("math/bits.deBruijn64tab", Rows.laid_math_bits_deBruijn64tab), ("internal/strconv.uint64pow10", Rows.laid_internal_strconv_uint64pow10), ("unicode/utf8.acceptRanges", Rows.laid_unicode_utf8_acceptRanges), ("strconv.ErrRange", Rows.laid_strconv_ErrRange), ("strconv.ErrSyntax", Rows.laid_strconv_ErrSyntax), ("hopscotch/lex.signs", Rows.laid_hopscotch_lex_signs), ("unicode/utf8.first", Rows.laid_unicode_utf8_first)]
noncomputable def low : Nat := (World.holding Tryz.prog default ⟨#[], #[], []⟩).heap.size
def b32 : List Int := [0, 1, 28, 2, 29, 14, 24, 3, 30, 22, 20, 15, 25, 17, 4, 8, 31, 27, 13, 23, 21, 19, 16, 7, 26, 12, 18, 6, 11, 5, 10, 9]
def b64 : List Int := 0 :: 1 :: 56 :: 2 :: 57 :: 49 :: 28 :: 3 :: 61 :: 58 :: 42 :: 50 :: 38 :: 29 :: 17 :: 4 :: 62 :: 47 :: 59 :: 36 :: 45 :: 43 :: 51 :: 22 :: 53 :: 39 :: 33 :: 30 :: 24 :: 18 :: 12 :: 5 :: 63 :: 55 :: 48 :: 27 :: 60 :: 41 :: 37 :: 16 :: 46 :: 35 :: 44 :: 21 :: 52 :: 32 :: 23 :: 11 :: 54 :: 26 :: 40 :: 15 :: 34 :: 20 :: 31 :: 10 :: 25 :: 14 :: 19 :: 9 :: 13 :: 8 :: 7 :: 6 :: []
def acR : List Int := [128, 191, 160, 191, 128, 159, 144, 191, 128, 143] ++ List.replicate 22 0
def errR : ByteArray := { data := #[118, 97, 108, 117, 101, 32, 111, 117, 116, 32, 111, 102, 32, 114, 97, 110, 103, 101] }
def errS : ByteArray := { data := #[105, 110, 118, 97, 108, 105, 100, 32, 115, 121, 110, 116, 97, 120] }
def withCells (cs : Array Value) : Obj → Obj
  | .cells _ t frozen => .cells cs t frozen
  | o => o
noncomputable def laidWorld (os : Os) : World :=
  let w0 := World.holding Tryz.prog os ⟨#[.cells #[.string errR] 240, .cells #[.string errS] 240], #[], []⟩
  { w0 with heap := (((((((w0.heap.modify 1 (withCells #[.iface 238 (.pointer (some ⟨low, 0, none⟩))])).modify 6 (withCells #[.iface 238 (.pointer (some ⟨low + 1, 0, none⟩))])).modify 3
      (withCells (Lib.pow10Tab.map (Value.int .u64)).toArray)).modify 7 (withCells (b32.map (Value.int .u8)).toArray)).modify 8 (withCells (b64.map (Value.int .u8)).toArray)).modify 5 (withCells (acR.map (Value.int .u8)).toArray)).modify
      0 (withCells (signsL.map fun s => Value.string ⟨s.toArray⟩).toArray)).modify 4 (withCells (Pinned.utf8FirstZ.map fun (n : Nat) => Value.int .u8 (n : Int)).toArray) }
theorem laidWorld_met (os : Os) (args : Array Value) : laidMet Tryz.prog laidAll ((laidWorld os).forCall (fun _ _ => 0) ⟨#[], args, []⟩).memory :=
  laidMet_of_run' 8 (by kernel_rfl) (by kernel_rfl)
end Go.Proofs.YtpoiceejhcpnaaaGreatDoor
end

section
namespace Go.Proofs.YtpoiceejhcpnaaaGreatDoor
open Go.RowKit Go.Hs
set_option maxRecDepth 100000
theorem laidMet_tail {P : Program} {W : World} {x : String × DataW Unit} {r : List (String × DataW Unit)} (h : laidMet P (x :: r) W) : laidMet P r W := by
  obtain ⟨n, d⟩ := x
  obtain ⟨ps, ⟨g0, t0, cs0, f0, p0, q0, hg0, ht0, hv0, hd0, hq, e0⟩, hnd, hrows⟩ := h
  subst e0
  exact ⟨q0, hq, (List.nodup_append.1 hnd).2.1, fun b off hm => hrows b off (List.mem_append.2 (.inr hm))⟩
noncomputable def gE (m : Int) : Nat → V := fun g => if g = 1 then .view .old (.iface 238 (.view .old (.agg []))) else if g = 3 then .view .old (.agg (Lib.pow10Tab.map (V.int .u64)))
  else if g = 0 then .view .old (.agg (signsL.map V.str)) else if g = 2 then .view .old (.int .i64 m) else .top
theorem recolL_ints (f : Col → Col) : ∀ l : List Int, V.recolL f (l.map (V.int .u64)) = l.map (V.int .u64)
  | [] => rfl
  | x :: r => by simp only [List.map_cons, V.recolL]; rw [recolL_ints f r]; rfl
theorem recolL_strs (f : Col → Col) : ∀ l : List (List UInt8), V.recolL f (l.map V.str) = l.map V.str
  | [] => rfl
  | x :: r => by simp only [List.map_cons, V.recolL]; rw [recolL_strs f r]; rfl
theorem gE_ok (m : Int) : GExp (gE m) where
  ok := fun g => by
    unfold gE
    split
    · exact ⟨rfl, .view _ _ fun x hx => by simp [V.cells] at hx; subst hx; exact .iface _ _ (.view _ _ fun x hx => by simp [V.cells] at hx)⟩
    · split
      · refine ⟨by simp only [V.recol, Col.ent, recolL_ints], .view _ _ fun x hx => ?_⟩
        obtain ⟨n, _, rfl⟩ := List.mem_map.1 hx
        exact .int _ _
      · split
        · refine ⟨by simp only [V.recol, Col.ent, recolL_strs], .view _ _ fun x hx => ?_⟩
          obtain ⟨n, _, rfl⟩ := List.mem_map.1 hx
          exact .str _
        · split
          · exact ⟨rfl, .view _ _ fun x hx => by simp [V.cells] at hx; subst hx; exact .int _ _⟩
          · exact ⟨rfl, .top⟩
  er := ⟨_, _, _, rfl⟩
  tab := ⟨_, rfl⟩
  sg := ⟨_, rfl⟩
  ml := ⟨_, m, rfl⟩
theorem gER : Tryz.prog.globalNamed "strconv.ErrRange" = some 1 := by kernel_rfl
theorem gERType : (Tryz.prog.globals[1]?).map (·.type) = some 136 := by kernel_rfl
theorem cells111 : Tryz.prog.cellsOf 240 = 1 := by kernel_rfl
theorem cells9 : Tryz.prog.cellsOf 9 = 1 := by kernel_rfl
theorem star : "*" ++ "errors.errorString" = "*errors.errorString" := by decide
theorem row109 (u : TypeId) (h : Tryz.prog.typeName? 3 u = some "*errors.errorString") : u = 238 :=
  typeName_ptr_named (nm := "errors.errorString") (by rw [star]; kernel_rfl) (by kernel_rfl) (by decide) u (by rw [star]; exact h)
theorem gTab : Tryz.prog.globalNamed "internal/strconv.uint64pow10" = some 3 := by kernel_rfl
theorem gTabType : ∃ t n, (Tryz.prog.globals[3]?).map (·.type) = some t ∧ Tryz.prog.underlying t = some (.array n 182) ∧ Tryz.prog.cellsOf t = n ∧ n = 20 := by
  refine ⟨(((Tryz.prog.globals[3]?).map (·.type)).getD 0), 20, by kernel_rfl, by kernel_rfl, by kernel_rfl, rfl⟩
theorem laid_tab {W : World} (h : laidMet Tryz.prog laidAll W) : Lib.TabIs Tryz.prog W "internal/strconv.uint64pow10" .u64 Lib.pow10Tab := by
  obtain ⟨t, n, h1, h2, h3, rfl⟩ := gTabType
  have e : (Rows.laid_internal_strconv_uint64pow10 : DataW Unit) = Lib.tabData .u64 Lib.pow10Tab := by rfl
  have h4 := laidMet_tail (laidMet_tail h)
  rw [e] at h4
  exact Lib.tabIs_of_head gTab h1 h2 Tryz.underlying182 (by kernel_rfl) h3 h4
theorem laid_err {W : World} (h : laidMet Tryz.prog laidAll W) : ∃ b off, W.cell? ⟨1, 0, none⟩ = some (.iface 238 (.pointer (some ⟨b, off, none⟩))) := by
  obtain ⟨a, s, h1, h2, _, _⟩ := laid_sentinel (laidMet_tail (laidMet_tail (laidMet_tail (laidMet_tail h)))) gER gERType Tryz.underlying136 row109 Tryz.underlying238 Tryz.underlying240 rfl rfl Tryz.underlying9 cells111 cells9
  have h0 := World.var?_cell gER h1 0
  have hs := World.cell?_spot h2
  obtain ⟨b, off, sp⟩ := a
  have hs : sp = none := hs
  subst hs
  exact ⟨b, off, by simpa using h0⟩
def strData {H : Type} (zs : List (List UInt8)) : DataW H := .agg (zs.map fun z => .lit (.string z))
theorem cells_of_strs {H : Type} {enc : TypeId × Value → H} {P : Program} {w : World} {base : Nat} {sp : Nat → Bool} {held : Bool} {fuel : Nat} {t e : TypeId} {n : Nat} {cs : List Value} {zs : List (List UInt8)} {p : List MemPlace}
    (ht : P.underlying t = some (.array n e)) (he : P.underlying e = some .string) (hce : P.cellsOf e = 1) (hct : P.cellsOf t = n)
    (h : DataW.trod enc P w base sp held fuel t cs = some (strData zs, p)) : cs.length = zs.length ∧ ∀ i (hi : i < zs.length), ∃ s : ByteArray, cs[i]? = some (.string s) ∧ s.data.toList = zs[i] := by
  cases fuel with
  | zero => simp [DataW.trod] at h
  | succ fuel =>
    simp only [DataW.trod, ht, hce, hct, Nat.mul_one] at h
    split at h
    · rename_i hl
      obtain ⟨xs, hm, hx⟩ := Option.map_eq_some_iff.1 h
      have hxs : xs.map (·.1) = zs.map fun z => (DataW.lit (.string z) : DataW H) := by
        have := congrArg Prod.fst hx
        simpa [strData] using this
      have hxl : xs.length = n := by simpa using Lib.mapM_length hm
      have hzl : zs.length = n := by
        have := congrArg List.length hxs
        simp at this
        omega
      refine ⟨by omega, fun i hi => ?_⟩
      have hin : i < n := by omega
      obtain ⟨b, hb, hf⟩ := Lib.mapM_at hm i i (by simp [hin])
      obtain ⟨z, hc, rfl, _⟩ := DataW.trod_string he hf
      have h1 : cs[i]? = some (.string z) := by
        have := congrArg (·[0]?) hc
        simpa [List.getElem?_take, List.getElem?_drop] using this
      have h2 : (xs.map (·.1))[i]? = some (DataW.lit (.string z.data.toList) : DataW H) := by simp [hb]
      rw [hxs, List.getElem?_map, List.getElem?_eq_getElem hi] at h2
      refine ⟨z, h1, ?_⟩
      have h3 : (DataW.lit (.string zs[i]) : DataW H) = .lit (.string z.data.toList) := Option.some.inj h2
      injection h3 with h3
      injection h3 with h3
      exact h3.symm
    · cases h
theorem gSg : Tryz.prog.globalNamed "hopscotch/lex.signs" = some 0 := by kernel_rfl
theorem gSgType : (Tryz.prog.globals[0]?).map (·.type) = some 148 := by kernel_rfl
theorem laid_signs {W : World} (h : laidMet Tryz.prog laidAll W) : ∃ cs : Array Value, W.var? Tryz.prog "hopscotch/lex.signs" = some cs ∧ cs.size = 14 ∧ ∀ i (hi : i < signsL.length), ∃ s : ByteArray, cs[i]? = some (.string s) ∧ s.data.toList = signsL[i] := by
  have e : (Rows.laid_hopscotch_lex_signs : DataW Unit) = strData signsL := by rfl
  have h4 := laidMet_tail (laidMet_tail (laidMet_tail (laidMet_tail (laidMet_tail (laidMet_tail h)))))
  rw [e] at h4
  obtain ⟨ps, ⟨g', t', cs, fuel, p, q, hg', ht', hvar, hd, _, _⟩, _⟩ := h4
  obtain rfl := Option.some.inj (gSg.symm.trans hg')
  obtain rfl := Option.some.inj (gSgType.symm.trans ht')
  obtain ⟨h1, h2⟩ := cells_of_strs Tryz.underlying148 Tryz.underlying9 cells9 (by kernel_rfl) hd
  refine ⟨_, hvar, (by simpa using h1 : cs.size = signsL.length).trans rfl, fun i hi => ?_⟩
  obtain ⟨s, h3, h4⟩ := h2 i hi
  exact ⟨s, by simpa using h3, h4⟩
theorem maxlen_of {W : World} (h : W.ShapedOpen Tryz.prog) : ∃ m, W.cell? ⟨2, 0, none⟩ = some (.int .i64 m) := by
  obtain ⟨cs, hh, hs, hr⟩ := h.1 2 #[.int .i64 0] 3 (of_decide_eq_true (by kernel_rfl)) (by kernel_rfl)
  obtain ⟨ts, hts, _, hall⟩ := hr (by kernel_rfl)
  rw [show Tryz.prog.cellTypes Tryz.prog.depth 3 = some [3] by kernel_rfl] at hts
  cases hts
  have h1 : 0 < cs.size := by rw [hs]; decide
  obtain ⟨u, hu', hok⟩ := hall 0 cs[0] (by simp [h1])
  have : u = 3 := by simpa using hu'.symm
  subst this
  have hcell : W.cell? ⟨2, 0, none⟩ = some cs[0] := by simp [World.cell?, hh, h1]
  rw [hcell]
  unfold Cell.ok at hok
  rw [Tryz.underlying3] at hok
  cases hv : cs[0] <;> rw [hv] at hok <;> first | (obtain ⟨rfl, _⟩ := hok; exact ⟨_, rfl⟩) | simp at hok
theorem laid_G {W : World} (h : laidMet Tryz.prog laidAll W) (hS : W.ShapedOpen Tryz.prog) : ∃ m, ∀ g, RelG (Cx.ofW W) g (gE m g) := by
  obtain ⟨m, hml⟩ := maxlen_of hS
  refine ⟨m, fun g => ?_⟩
  unfold gE
  split
  · rename_i hg
    subst hg
    obtain ⟨b, off, h1⟩ := laid_err h
    refine ⟨?_, trivial⟩
    refine .view .old _ 1 0 (fun _ => .iface 238 (.pointer (some ⟨b, off, none⟩))) (fun i hi => ?_) (fun i hi => ?_)
    · have : i = 0 := by simpa [V.cells] using hi
      subst this
      refine ⟨by show (W.cell? _).isSome = true; rw [h1]; rfl, World.block_lt_of_cell? _ _ h1, h1, rfl⟩
    · have : i = 0 := by simpa [V.cells] using hi
      subst this
      exact .iface _ _ _ (.view .old _ b off (fun _ => .nilIface) (fun i hi => by simp [V.cells] at hi) (fun i hi => by simp [V.cells] at hi))
  · split
    · rename_i hg
      subst hg
      have ht := laid_tab h
      have hc : ∀ i (hi : i < Lib.pow10Tab.length), W.cell? ⟨3, i, none⟩ = some (.int .u64 (Lib.pow10Tab.getD i 0)) := fun i hi => ht.cell gTab i hi
      have hlen : Lib.pow10Tab.length = 20 := Lib.pow10Tab_length
      have hlt : 3 < W.heap.size := World.block_lt_of_cell? _ _ (hc 0 (by omega))
      have hv : W.var? Tryz.prog "internal/strconv.uint64pow10" = some (Lib.pow10Tab.map fun z => Value.int .u64 z).toArray := ht
      refine ⟨?_, ?_⟩
      · refine .view .old _ 3 0 (fun i => .int .u64 (Lib.pow10Tab.getD i 0)) (fun i hi => ?_) (fun i hi => ?_)
        · have hi : i < Lib.pow10Tab.length := by simpa [V.cells] using hi
          rw [Nat.zero_add]
          exact ⟨by show (W.cell? _).isSome = true; rw [hc i hi]; rfl, hlt, hc i hi, rfl⟩
        · have hi' : i < Lib.pow10Tab.length := by simpa [V.cells] using hi
          have key : ∀ v, v = V.int .u64 (Lib.pow10Tab.getD i 0) → Rel (Cx.ofW W) (Value.int .u64 (Lib.pow10Tab.getD i 0)) v := fun v e => by rw [e]; exact .int _ _
          exact key _ (by simp [V.cells, List.getD, hi'])
      · refine ⟨hlt, ?_⟩
        unfold World.var? at hv
        rw [gTab] at hv
        have hv : (match W.heap[3]? with | some (Obj.cells cs _ _) => some cs | _ => none) = some (Lib.pow10Tab.map fun z => Value.int .u64 z).toArray := hv
        split at hv
        · rename_i cs t fr hh
          cases hv
          exact ⟨_, t, fr, hh, by simp⟩
        · cases hv
    · split
      · rename_i hg
        subst hg
        obtain ⟨cs, hv, hsz, hcs⟩ := laid_signs h
        have h0 := fun i => World.var?_cell gSg hv i
        have hc : ∀ i (hi : i < signsL.length), ∃ s : ByteArray, W.cell? ⟨0, i, none⟩ = some (.string s) ∧ s.data.toList = signsL[i] := fun i hi => by
          obtain ⟨s, h1, h2⟩ := hcs i hi
          exact ⟨s, by rw [h0 i]; exact h1, h2⟩
        have hlt : 0 < W.heap.size := by
          obtain ⟨s, h1, _⟩ := hc 0 (by decide)
          exact World.block_lt_of_cell? _ _ h1
        refine ⟨?_, ?_⟩
        · refine .view .old _ 0 0 (fun i => (cs[i]?).getD undef) (fun i hi => ?_) (fun i hi => ?_)
          · have hi : i < signsL.length := by simpa [V.cells] using hi
            obtain ⟨s, h1, _⟩ := hcs i hi
            rw [Nat.zero_add, h1]
            have h2 : W.cell? ⟨0, i, none⟩ = some (.string s) := by rw [h0 i]; exact h1
            exact ⟨by show (W.cell? _).isSome = true; rw [h2]; rfl, hlt, h2, rfl⟩
          · have hi' : i < signsL.length := by simpa [V.cells] using hi
            obtain ⟨s, h1, h2⟩ := hcs i hi'
            rw [h1]
            have key : ∀ v, v = V.str signsL[i] → Rel (Cx.ofW W) (Value.string s) v := fun v e => by rw [e]; exact .str _ _ h2
            exact key _ (by simp [V.cells])
        · refine ⟨hlt, ?_⟩
          unfold World.var? at hv
          rw [gSg] at hv
          have hv : (match W.heap[0]? with | some (Obj.cells cs _ _) => some cs | _ => none) = some cs := hv
          split at hv
          · rename_i cs' t fr hh
            cases hv
            exact ⟨_, t, fr, hh, by rw [hsz]; rfl⟩
          · cases hv
      · split
        · rename_i hg
          subst hg
          refine ⟨?_, trivial⟩
          refine .view .old _ 2 0 (fun _ => .int .i64 m) (fun i hi => ?_) (fun i hi => ?_)
          · have : i = 0 := by simpa [V.cells] using hi
            subst this
            refine ⟨by show (W.cell? _).isSome = true; rw [hml]; rfl, World.block_lt_of_cell? _ _ hml, hml, rfl⟩
          · have : i = 0 := by simpa [V.cells] using hi
            subst this
            exact .int _ _
        · exact ⟨.top _, trivial⟩
end Go.Proofs.YtpoiceejhcpnaaaGreatDoor
end

section
namespace Go.Proofs.YtpoiceejhcpnaaaGreatDoor
open Go.RowKit Go.Hs Go.ChangeShapes Go.WideShapes Go.ChangeAt
open Go.ChangeMaps (open_string shut_string)
set_option maxRecDepth 100000
theorem reads_str (W : World) : Reads Tryz.prog W 9 1 (fun s : List UInt8 => [V.str s]) := by
  refine ⟨by kernel_rfl, fun _ => rfl, fun enc held fuel cs x h => ?_⟩
  obtain ⟨s, rfl, _, _⟩ := DataW.trod_string Tryz.underlying9 h
  exact ⟨s.data.toList, RelC.cons rfl (.str _ _ rfl) RelC.nil⟩
theorem reads_strs (W : World) : Reads Tryz.prog W 25 1 (fun s : Sl (List UInt8) => [encSl .any 1 V.str s]) :=
  Reads.slice Tryz.underlying25 (by kernel_rfl) (by decide) (reads_str W)
theorem reads_xn (W : World) : Reads Tryz.prog W 41 6 (fun n : XN => (encXN n).cells) := by
  refine ⟨by kernel_rfl, fun _ => rfl, fun enc held fuel cs x h => ?_⟩
  obtain ⟨xs, n, _, _, hl, hlen, hf⟩ := DataW.trod_struct Tryz.underlying41 h
  have e43 : Tryz.prog.cellsOf 41 = 6 := by kernel_rfl
  rw [e43] at hl
  have hx : xs.length = 6 := hlen
  obtain ⟨op, h0⟩ := Reads.field (Reads.int (W := W) Tryz.underlying5 (by kernel_rfl)) (i := 0) (hf 0 _ rfl) (by omega)
  obtain ⟨num, h1⟩ := Reads.field (Reads.int (W := W) Tryz.underlying2 (by kernel_rfl)) (i := 1) (hf 1 _ rfl) (by omega)
  obtain ⟨name, h2⟩ := Reads.field (reads_str W) (i := 2) (hf 2 _ rfl) (by omega)
  obtain ⟨a, h3⟩ := Reads.field (Reads.int (W := W) Tryz.underlying3 (by kernel_rfl)) (i := 3) (hf 3 _ rfl) (by omega)
  obtain ⟨b, h4⟩ := Reads.field (Reads.int (W := W) Tryz.underlying3 (by kernel_rfl)) (i := 4) (hf 4 _ rfl) (by omega)
  obtain ⟨c, h5⟩ := Reads.field (Reads.int (W := W) Tryz.underlying3 (by kernel_rfl)) (i := 5) (hf 5 _ rfl) (by omega)
  match cs, hl with
  | [c0, c1, c2, c3, c4, c5], _ => exact ⟨⟨op, num, name, a, b, c⟩, h0.append (h1.append (h2.append (h3.append (h4.append h5))))⟩
theorem reads_xns (W : World) : Reads Tryz.prog W 22 1 (fun s : Sl XN => [encSl .any 6 encXN s]) :=
  Reads.slice Tryz.underlying22 (by kernel_rfl) (by decide) (reads_xn W)
theorem reads_expr (W : World) : Reads Tryz.prog W 24 1 (fun s : Sl XN => (V.agg [encSl .any 6 encXN s]).cells) := by
  refine ⟨by kernel_rfl, fun _ => rfl, fun enc held fuel cs x h => ?_⟩
  obtain ⟨xs, n, _, _, hl, hlen, hf⟩ := DataW.trod_struct Tryz.underlying24 h
  have e24 : Tryz.prog.cellsOf 24 = 1 := by kernel_rfl
  rw [e24] at hl
  have hx : xs.length = 1 := hlen
  obtain ⟨s, h0⟩ := Reads.field (reads_xns W) (i := 0) (hf 0 _ rfl) (by omega)
  match cs, hl with
  | [c0], _ => exact ⟨s, h0⟩
variable {W : World} {H : Type} {enc : TypeId × Value → H} {b0 : Nat} {v : Value} {d : DataW H} {ps : List MemPlace}
theorem argL (hv : Value.okWide Tryz.prog W .any b0 25 v) (h : DataW.Trod enc Tryz.prog W 0 (fun _ => true) true 25 v d ps) : ∃ x : Sl (List UInt8), Rel (Cx.ofW W) v (encSl .old 1 V.str x) := by
  obtain ⟨fuel, h⟩ := h
  obtain ⟨x, hx⟩ := (reads_strs W).2.2 enc true fuel _ _ h
  have key : Rel (Cx.ofW W) v (encSl .any 1 V.str x) := by
    unfold Value.okWide at hv
    rw [Tryz.underlying25] at hv
    have hc : v.cells = #[v] := by
      unfold Cell.okWide Cell.ok at hv
      rw [Tryz.underlying25] at hv
      cases v <;> first | rfl | (simp at hv)
    rw [hc] at hx
    exact hx.rel 0 (by simp) (by simp)
  have h2 := key.ofW_old
  refine ⟨x, ?_⟩
  simpa only [go_sem, List.map_cons, List.map_nil] using h2
theorem argX (hv : Value.okWide Tryz.prog W .any b0 24 v) (h : DataW.Trod enc Tryz.prog W 0 (fun _ => true) true 24 v d ps) : ∃ x : Sl XN, Rel (Cx.ofW W) v (.agg [encSl .old 6 encXN x]) := by
  obtain ⟨fuel, h⟩ := h
  obtain ⟨x, hx⟩ := (reads_expr W).2.2 enc true fuel _ _ h
  have key : Rel (Cx.ofW W) v (.agg [encSl .any 6 encXN x]) := by
    unfold Value.okWide at hv
    rw [Tryz.underlying24] at hv
    obtain ⟨cs, rfl, _, _⟩ := hv
    have hx' : RelC (Cx.ofW W) (Value.agg cs).cells.toList [encSl .any 6 encXN x] := hx
    exact Rel.of_aggC hx'
  have h2 := key.ofW_old
  refine ⟨x, ?_⟩
  simpa only [go_sem, recol_xns, List.map_cons, List.map_nil] using h2
theorem own : ownKnob Tryz.prog.godebug = none := by kernel_rfl
theorem laidOut : laidOutB Tryz.prog = true := by kernel_rfl
theorem lift_shaped {a : Assume} {C : Checked} {os : Os} {f : FuncId} {fn : Func} {H : Type} {enc : TypeId × Value → H} {s : ChangeSpec} {conds : List PathCond} {apart fresh handsOn again : Bool} {X : World → Array Value → Prop}
    (hX : ∀ (w w' : World) (args : Array Value), w.heap = w'.heap → X w args → X w' args)
    (ownk : ownKnob C.prog.godebug = none) (started : os.Started) (noInit : C.prog.inits.idxOf? f = none) (hfn : C.prog.funcs[f]? = some fn)
    (witness : ∃ (w : World) (tape : Tape) (i : Input), w.os = os ∧ (w.forCall tape i).Shaped C.prog ∧ i.vars = [] ∧ Input.okWide C.prog (w.forCall tape i) .any w.heap.size f i ∧
      ((s.pre enc C.prog fn conds apart (w.forCall tape i).memory i.args ∧ X (w.forCall tape i).memory i.args) ∧ sizedMet enc C.prog fn (OpenSpec.ofChange s) apart (w.forCall tape i).memory i.args) ∧ a.holds C.prog (lone (Frame.enter C.prog f i.args .normal) [] (w.forCall tape i)))
    (contract : ∀ (W : World) (base : Nat) (args : Array Value) (ds gs : List (DataW H)) (before : List MemPlace), W.ShapedOpen C.prog →
      (∀ (j : Nat) t v, fn.params[j]? = some t → args[j]? = some v → Value.okWide C.prog W .any base t v) →
      DataW.Whole enc C.prog fn.params.toList s.vars apart W args.toList ds gs before → X W args →
      Calls C.prog f args W fun e W' => ∃ v, e = .returned v ∧ s.post enc C.prog fn apart fresh handsOn again W args v W') :
    ReturnsInHanded a C os f .any (fun w args => (s.pre enc C.prog fn conds apart w args ∧ X w args) ∧ sizedMet enc C.prog fn (OpenSpec.ofChange s) apart w args) (s.post enc C.prog fn apart fresh handsOn again) := by
  refine returnsInHanded_of_calls ownk started noInit witness ?_
  intro w tape i _ hsh _ hok hpre _
  obtain ⟨_, _, _, fn', hfn', _, _, _, _, hval⟩ := hok
  have e : fn' = fn := Option.some.inj (hfn'.symm.trans hfn)
  subst e
  obtain ⟨⟨⟨ds, gs, before, hw, _⟩, hx⟩, _⟩ := hpre
  have hw' := DataW.Whole.of_heap (w' := w.forCall tape i) (by rfl) hw
  refine (contract (w.forCall tape i) w.heap.size i.args ds gs before hsh hval hw' (hX _ _ _ (by rfl) hx)).mono fun e W' ⟨v, he, hp⟩ => ?_
  subst he
  exact ChangeSpec.post_blind hp
end Go.Proofs.YtpoiceejhcpnaaaGreatDoor
end

section
namespace Go.Proofs.YtpoiceejhcpnaaaGreatDoor.typesMore
open Go.ChangeShapes Go.WideShapes Go.ChangeAt Go.RowKit Go.Hs
set_option linter.unusedVariables false
set_option maxRecDepth 100000
theorem lifted (os : Os) (started : os.Started) (H : Type) (enc : TypeId × Value → H) :
    ReturnsInHanded {} Tryz.checked os 6 .any (fun w args => (Rows.typesMoreSpec.pre enc Tryz.prog Tryz.f6 Rows.typesMoreRow.domain false w args ∧ laidMet Tryz.prog laidAll w) ∧ sizedMet enc Tryz.prog Tryz.f6 (OpenSpec.ofChange Rows.typesMoreSpec) false w args)
      (Rows.typesMoreSpec.post enc Tryz.prog Tryz.f6 false true false false) := by
  refine lift_shaped (C := Tryz.checked) (X := fun w _ => laidMet Tryz.prog laidAll w) (fun _ _ _ hh h => h.of_heap hh) own started (by kernel_rfl) Tryz.func6
    (ChangeSpec.witness_at (enc := enc) (C := Tryz.checked) (os := os) (X := fun w _ => laidMet Tryz.prog laidAll w) false (laidWorld os) #[.agg #[.slice none 0 0], .slice none 0 0, .slice none 0 0] 8 rfl (by kernel_rfl) (by kernel_rfl) (by kernel_rfl) (by kernel_rfl) (by kernel_rfl) (laidWorld_met os _)) ?_
  intro W base args ds gs before hS hval0 hW hL
  have hval : ∀ (j : Nat) t v, Tryz.f6.params[j]? = some t → args[j]? = some v → Value.okWide Tryz.prog W .any base t v := hval0
  have hW' := hW
  obtain ⟨p, q, hA0, hV, rfl, hfz, hnd⟩ := hW
  have hA : DataW.TrodAll enc Tryz.prog W 0 (fun _ => true) true Tryz.f6.params.toList args.toList ds p := hA0
  rw [Tryz.params6] at hA hval
  obtain ⟨v0, vs0, d0, ds0, p0, q0, hargs, rfl, rfl, h0, r0⟩ := trodAll_cons hA
  obtain ⟨v1, vs1, d1, ds1, p1, q1, rfl, rfl, rfl, h1, r1⟩ := trodAll_cons r0
  obtain ⟨v2, vs2, d2, ds2, p2, q2, rfl, rfl, rfl, h2, r2⟩ := trodAll_cons r1
  obtain ⟨rfl, rfl, rfl⟩ := trodAll_nil r2
  obtain rfl : args = #[v0, v1, v2] := by cases args; simp_all
  obtain ⟨rfl, rfl⟩ := trodVars_none hV
  obtain ⟨x0, hx0⟩ := argX (hval 0 24 v0 rfl rfl) h0
  obtain ⟨x1, hx1⟩ := argL (hval 1 25 v1 rfl rfl) h1
  obtain ⟨x2, hx2⟩ := argL (hval 2 25 v2 rfl rfl) h2
  have hR : RelA (Cx.ofW W) #[v0, v1, v2] [.agg [encSl .old 6 encXN x0], encSl .old 1 V.str x1, encSl .old 1 V.str x2] := by
    refine ⟨rfl, fun i k1 k2 => ?_⟩
    match i, k1 with
    | 0, _ => exact hx0
    | 1, _ => exact hx1
    | 2, _ => exact hx2
  obtain ⟨m, hG⟩ := laid_G hL hS
  refine (Spec.toCallsG (lTypesMore (gE m) (gE_ok m) x0 x1 x2) hG hR).mono ?_
  rintro e W' ⟨c, v, H', Y, rfl, hr, rfl, hB⟩
  obtain rfl := hr.bool_inv
  have hlt0 : ∀ x ∈ p0, x.block < W.heap.size := fun x hx => by simpa using hW'.lt x (by simp [hx])
  have hlt1 : ∀ x ∈ p1, x.block < W.heap.size := fun x hx => by simpa using hW'.lt x (by simp [hx])
  have hlt2 : ∀ x ∈ p2, x.block < W.heap.size := fun x hx => by simpa using hW'.lt x (by simp [hx])
  have k0 := Below.trod laidOut (by kernel_rfl) (of_decide_eq_true (by kernel_rfl)) h0 hB hlt0
  have k1 := Below.trod laidOut (by kernel_rfl) (of_decide_eq_true (by kernel_rfl)) h1 hB hlt1
  have k2 := Below.trod laidOut (by kernel_rfl) (of_decide_eq_true (by kernel_rfl)) h2 hB hlt2
  refine ⟨_, rfl, _, _, _, [], p0 ++ (p1 ++ (p2 ++ [])), [], hW', ?_, ?_, rfl, hB.frame _, fun h => by cases h⟩
  · exact trodAll_cons_mk (shut_bool Tryz.underlying4 _) trodAll_mk0
  · exact trodAll_cons_mk k0 (trodAll_cons_mk k1 (trodAll_cons_mk k2 trodAll_mk0))
theorem over : Rows.typesMoreRow.holds Tryz.pinned (OpenSpec.ofChange Rows.typesMoreSpec) :=
  OpenClaim.holds_of_wide 6 Tryz.f6 rfl rfl rfl rfl rfl rfl rfl ⟨rfl, rfl, rfl, rfl, rfl⟩ rfl rfl rfl rfl rfl (by kernel_rfl) Tryz.func6 (by kernel_rfl)
    (of_decide_eq_true (by kernel_rfl)) (by unfold Func.isWrapper; first | (rw [if_pos (by decide +kernel)]; kernel_rfl) | (rw [if_neg (by decide +kernel)]; exact ⟨rfl, rfl⟩))
    (fun os started H enc _ => lifted os started H enc)
theorem wants (j : Nat) (t : TypeId) (h : Tryz.f6.params[j]? = some t) : Tryz.prog.wantsStandIn t = false := by
  rw [Tryz.params6] at h
  match j, h with
  | 0, h => exact (Option.some.inj h : 24 = t) ▸ (show Tryz.prog.wantsStandIn 24 = false by kernel_rfl)
  | 1, h => exact (Option.some.inj h : 25 = t) ▸ (show Tryz.prog.wantsStandIn 25 = false by kernel_rfl)
  | 2, h => exact (Option.some.inj h : 25 = t) ▸ (show Tryz.prog.wantsStandIn 25 = false by kernel_rfl)
  | j + 3, h => cases h
theorem proved : Rows.TypesMoreCardSaid :=
  Claim7.holds_tied_plain_at .later [] [.data, .data, .data, .data, .sentinel, .sentinel, .widerDeep, .pinned] true (true, "c61799da9672bb93df461c861db7a63f9a2dff05b3c1b7d4d17194ccce321fe3") true
    over (fun _ h => by cases h) (by kernel_rfl) (fun _ h => by cases h) typesMore_row_tie rfl ⟨rfl, rfl⟩ (by kernel_rfl) rfl
    (fun f fn hf hfn => by
      obtain rfl : f = 6 := Option.some.inj ((show Tryz.prog.funcNamed "hopscotch/hopscotchlaw09.TypesMore" = some 6 by kernel_rfl).symm.trans hf) |>.symm
      obtain rfl : fn = Tryz.f6 := (Option.some.inj (Tryz.func6.symm.trans hfn)).symm
      exact ⟨by kernel_rfl, fun j t ht => wants j t ht⟩)
    (by kernel_rfl)
#print axioms proved
end Go.Proofs.YtpoiceejhcpnaaaGreatDoor.typesMore
end
