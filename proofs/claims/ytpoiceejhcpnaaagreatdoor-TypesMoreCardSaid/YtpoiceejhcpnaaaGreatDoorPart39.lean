/- Part 39 of the proof of a statement of seat YtpoiceejhcpnaaaGreatDoor: HsETypK. -/
import Derived.Test.YtpoiceejhcpnaaaGreatDoorPart38
set_option linter.unusedSimpArgs false
set_option linter.unusedVariables false
section
namespace Go.Hs
open Go.Proofs
set_option maxRecDepth 10000
theorem r9Among_spec (G : Nat → V) (hG : GOk G) (c : Col) (t : List UInt8) (s : Sl (List UInt8)) (hs : s.l.length < 1000000) :
    Spec Tryz.prog G 55 [.str t, encSl c 1 V.str s] hNone (fun v _ => v = .bool (s.l.contains t)) := by
  refine Spec.of_code' 0 18 [.tmp 4] Tryz.func55 rfl rfl rfl rfl fun X => ?_
  refine AW.seq_k fun K hK => AW.region (by kernel_rfl) ?_
  simp -implicitDefEqProofs only [go_sem, seval, ↓reduceIte]
  refine hK _ ?_
  clear hK K
  refine AW.seq_k fun K1 hK1 => ?_
  refine AW.seq_k fun K hK => AW.region (by kernel_rfl) ?_
  simp -implicitDefEqProofs only [go_sem, seval, ↓reduceIte]
  refine hK _ ?_
  clear hK K
  refine AW.block ?_
  refine AW.for s.l.length (fun k (_ : Unit) => st [(0, .str t), (1, encSl c 1 V.str s), (5, .int .i64 k)] []) (fun k _ => (s.l.take k).contains t = false) 0 () (Nat.zero_le _) rfl
    (Weak.st (by simp -implicitDefEqProofs only [go_sem, seval, ↓reduceIte]; try rfl) (by simp -implicitDefEqProofs only [go_sem, seval, ↓reduceIte])) ?_
  intro k _ hk hR L2 hL2
  refine AW.seq_k fun K3 hK3 => ?_
  refine AW.seq_k fun K hK => AW.region (by kernel_rfl) ?_
  simp -implicitDefEqProofs only [go_sem, seval, ↓reduceIte]
  refine hK _ ?_
  clear hK K
  refine AW.condS (by simp -implicitDefEqProofs only [go_sem, seval, ↓reduceIte]; rfl) (fun h4 => ?_) (fun h4 => ?_)
  · have hk1 : k < s.l.length := by simpa using h4
    have hg := List.getElem?_eq_getElem hk1
    have htk : s.l.take (k + 1) = s.l.take k ++ [s.l[k]] := by rw [List.take_succ_eq_append_getElem hk1]
    have hmem := List.getElem_mem hk1
    generalize s.l[k] = x at hg htk hmem
    refine AW.skip ?_
    simp -implicitDefEqProofs only [go_sem, seval, ↓reduceIte]
    refine hK3 _ ?_
    refine AW.seq_k fun K5 hK5 => ?_
    refine AW.block ?_
    refine AW.seq_k fun K hK => AW.region (by kernel_rfl) ?_
    simp -implicitDefEqProofs only [go_sem, seval, ↓reduceIte, hg]
    refine hK _ ?_
    clear hK K
    refine AW.condS (by simp -implicitDefEqProofs only [go_sem, seval, ↓reduceIte]; rfl) (fun h6 => ?_) (fun h6 => ?_)
    · have h6 : x = t := by simpa using h6
      refine AW.seq_k fun K hK => AW.region (by kernel_rfl) ?_
      simp -implicitDefEqProofs only [go_sem, seval, ↓reduceIte]
      refine hK _ ?_
      clear hK K
      refine AW.ret ?_
      simp -implicitDefEqProofs only [go_sem, seval, ↓reduceIte]
      refine endK_some ?_
      have : s.l.contains t = true := by rw [← h6]; simpa using hmem
      rw [this]
    · have h6 : ¬ x = t := by simpa using h6
      refine AW.skip ?_
      simp -implicitDefEqProofs only [go_sem, seval, ↓reduceIte]
      refine hK5 _ ?_
      refine AW.region (by kernel_rfl) ?_
      simp -implicitDefEqProofs only [go_sem, seval, ↓reduceIte]
      refine hL2 _ ⟨hk1, (), ?_, Weak.st (by simp -implicitDefEqProofs only [go_sem, seval, ↓reduceIte]; exact congrArg _ (w64 (by omega) (by omega))) (by simp -implicitDefEqProofs only [go_sem, seval, ↓reduceIte])⟩
      rw [htk]
      simp only [List.contains_eq_mem, decide_eq_false_iff_not] at hR ⊢
      intro hm
      rcases List.mem_append.1 hm with h | h
      · exact hR h
      · exact h6 ((List.mem_singleton.1 h).symm)
  · have hk1 : k = s.l.length := by simp at h4; omega
    refine AW.exit ?_
    simp -implicitDefEqProofs only [go_sem, seval, ↓reduceIte]
    refine hK1 _ ?_
    refine AW.seq_k fun K hK => AW.region (by kernel_rfl) ?_
    simp -implicitDefEqProofs only [go_sem, seval, ↓reduceIte]
    refine hK _ ?_
    clear hK K
    refine AW.ret ?_
    simp -implicitDefEqProofs only [go_sem, seval, ↓reduceIte]
    refine endK_some ?_
    rw [hk1, List.take_length] at hR
    rw [hR]
theorem sIndexS_spec (G : Nat → V) (hG : GOk G) (c : Col) (t : List UInt8) (s : Sl (List UInt8)) (hs : s.l.length < 1000000) :
    Spec Tryz.prog G 72 [encSl c 1 V.str s, .str t] hNone (fun v _ => ∃ i : Int, v = .int .i64 i ∧ decide (i ≥ 0) = s.l.contains t) := by
  refine Spec.of_code' 0 19 [.tmp 4] Tryz.func72 rfl rfl rfl rfl fun X => ?_
  refine AW.seq_k fun K hK => AW.region (by kernel_rfl) ?_
  simp -implicitDefEqProofs only [go_sem, seval, ↓reduceIte]
  refine hK _ ?_
  clear hK K
  refine AW.seq_k fun K1 hK1 => ?_
  refine AW.seq_k fun K hK => AW.region (by kernel_rfl) ?_
  simp -implicitDefEqProofs only [go_sem, seval, ↓reduceIte]
  refine hK _ ?_
  clear hK K
  refine AW.block ?_
  refine AW.for s.l.length (fun k (_ : Unit) => st [(0, encSl c 1 V.str s), (1, .str t), (7, .int .i64 s.l.length), (8, .int .i64 k)] []) (fun k _ => (s.l.take k).contains t = false) 0 () (Nat.zero_le _) rfl
    (Weak.st (by simp -implicitDefEqProofs only [go_sem, seval, ↓reduceIte]; try rfl) (by simp -implicitDefEqProofs only [go_sem, seval, ↓reduceIte])) ?_
  intro k _ hk hR L2 hL2
  refine AW.seq_k fun K hK => AW.region (by kernel_rfl) ?_
  simp -implicitDefEqProofs only [go_sem, seval, ↓reduceIte]
  refine hK _ ?_
  clear hK K
  refine AW.seq_k fun K3 hK3 => ?_
  refine AW.condS (by simp -implicitDefEqProofs only [go_sem, seval, ↓reduceIte]; rfl) (fun h4 => ?_) (fun h4 => ?_)
  · have hk1 : k < s.l.length := by simpa using h4
    have hg := List.getElem?_eq_getElem hk1
    have htk : s.l.take (k + 1) = s.l.take k ++ [s.l[k]] := by rw [List.take_succ_eq_append_getElem hk1]
    have hmem := List.getElem_mem hk1
    generalize s.l[k] = x at hg htk hmem
    refine AW.skip ?_
    simp -implicitDefEqProofs only [go_sem, seval, ↓reduceIte]
    refine hK3 _ ?_
    refine AW.seq_k fun K5 hK5 => ?_
    refine AW.block ?_
    refine AW.seq_k fun K hK => AW.region (by kernel_rfl) ?_
    simp -implicitDefEqProofs only [go_sem, seval, ↓reduceIte]
    refine hK _ ?_
    clear hK K
    refine AW.seq_k fun K hK => AW.region (by kernel_rfl) ?_
    simp -implicitDefEqProofs only [go_sem, seval, ↓reduceIte, hg]
    refine hK _ ?_
    clear hK K
    refine AW.condS (by simp -implicitDefEqProofs only [go_sem, seval, ↓reduceIte]; rfl) (fun h6 => ?_) (fun h6 => ?_)
    · have h6 : t = x := by simpa using h6
      refine AW.seq_k fun K hK => AW.region (by kernel_rfl) ?_
      simp -implicitDefEqProofs only [go_sem, seval, ↓reduceIte]
      refine hK _ ?_
      clear hK K
      refine AW.ret ?_
      simp -implicitDefEqProofs only [go_sem, seval, ↓reduceIte]
      refine endK_some ?_
      have : s.l.contains t = true := by rw [h6]; simpa using hmem
      rw [this]
      exact ⟨_, rfl, by rw [decide_eq_true_iff]; omega⟩
    · have h6 : ¬ t = x := by simpa using h6
      refine AW.skip ?_
      simp -implicitDefEqProofs only [go_sem, seval, ↓reduceIte]
      refine hK5 _ ?_
      refine AW.region (by kernel_rfl) ?_
      simp -implicitDefEqProofs only [go_sem, seval, ↓reduceIte]
      refine hL2 _ ⟨hk1, (), ?_, Weak.st (by simp -implicitDefEqProofs only [go_sem, seval, ↓reduceIte]; exact congrArg _ (w64 (by omega) (by omega))) (by simp -implicitDefEqProofs only [go_sem, seval, ↓reduceIte])⟩
      rw [htk]
      simp only [List.contains_eq_mem, decide_eq_false_iff_not] at hR ⊢
      intro hm
      rcases List.mem_append.1 hm with h | h
      · exact hR h
      · exact h6 (List.mem_singleton.1 h)
  · have hk1 : k = s.l.length := by simp at h4; omega
    refine AW.exit ?_
    simp -implicitDefEqProofs only [go_sem, seval, ↓reduceIte]
    refine hK1 _ ?_
    refine AW.seq_k fun K hK => AW.region (by kernel_rfl) ?_
    simp -implicitDefEqProofs only [go_sem, seval, ↓reduceIte]
    refine hK _ ?_
    clear hK K
    refine AW.ret ?_
    simp -implicitDefEqProofs only [go_sem, seval, ↓reduceIte]
    refine endK_some ?_
    rw [hk1, List.take_length] at hR
    rw [hR]
    exact ⟨_, rfl, rfl⟩
theorem sContains_spec (G : Nat → V) (hG : GOk G) (c : Col) (t : List UInt8) (s : Sl (List UInt8)) (hs : s.l.length < 1000000) :
    Spec Tryz.prog G 53 [encSl c 1 V.str s, .str t] hNone (fun v _ => v = .bool (s.l.contains t)) := by
  refine Spec.of_code' 0 9 [.tmp 4] Tryz.func53 rfl rfl rfl rfl fun X => ?_
  refine AW.seq_k fun K hK => AW.region (by kernel_rfl) ?_
  simp -implicitDefEqProofs only [go_sem, seval, ↓reduceIte]
  refine hK _ ?_
  clear hK K
  refine AW.seq_k fun K hK => AW.region (by kernel_rfl) ?_
  simp -implicitDefEqProofs only [go_sem, seval, ↓reduceIte]
  refine CallA.pure hG (by kernel_rfl) ?_
  simp -implicitDefEqProofs only [go_sem, seval, ↓reduceIte]
  refine (sIndexS_spec G hG _ t s hs).mono ?_
  rintro _ _ ⟨i, rfl, hi⟩
  simp -implicitDefEqProofs only [go_sem, seval, ↓reduceIte]
  refine hK _ ?_
  clear hK K
  refine AW.ret ?_
  simp -implicitDefEqProofs only [go_sem, seval, ↓reduceIte]
  refine endK_some ?_
  rw [hi]
theorem tAt_spec (G : Nat → V) (hG : GOk G) (c : Col) (s : Sl Int) (hs : s.l.length < 1000000) (i : Int) (hi : i < 0 ∨ 0 ≤ i ∧ i < s.l.length) :
    Spec Tryz.prog G 68 [.int .i64 i, .view .old (encSl c 1 (V.int .u8) s)] hNone (fun v _ => v = .int .u8 (plc s.l i)) := by
  refine Spec.of_code' 0 10 [.tmp 3] Tryz.func68 rfl rfl rfl rfl fun X => ?_
  have hP : plc s.l i = if i < 0 then 0 else s.l.getD i.toNat 0 := rfl
  generalize plc s.l i = res at hP ⊢
  refine AW.seq_k fun K hK => AW.region (by kernel_rfl) ?_
  simp -implicitDefEqProofs only [go_sem, seval, ↓reduceIte]
  refine hK _ ?_
  clear hK K
  refine AW.seq_k fun K1 hK1 => ?_
  refine AW.seq_k fun K hK => AW.region (by kernel_rfl) ?_
  simp -implicitDefEqProofs only [go_sem, seval, ↓reduceIte]
  refine hK _ ?_
  clear hK K
  refine AW.condS (by simp -implicitDefEqProofs only [go_sem, seval, ↓reduceIte]; rfl) (fun h2 => ?_) (fun h2 => ?_)
  · have h2 : i < 0 := by simpa using h2
    rw [if_pos h2] at hP
    refine AW.seq_k fun K hK => AW.region (by kernel_rfl) ?_
    simp -implicitDefEqProofs only [go_sem, seval, ↓reduceIte]
    refine hK _ ?_
    clear hK K
    refine AW.ret ?_
    simp -implicitDefEqProofs only [go_sem, seval, ↓reduceIte]
    refine endK_some ?_
    rw [hP]
  · have h2 : ¬ i < 0 := by simpa using h2
    rw [if_neg h2] at hP
    obtain ⟨m, rfl⟩ : ∃ m : Nat, i = m := ⟨i.toNat, by omega⟩
    have hm : m < s.l.length := by omega
    have hg := List.getElem?_eq_getElem hm
    have hgd : s.l.getD ((m : Nat) : Int).toNat 0 = s.l[m] := by rw [Int.toNat_natCast, List.getD_eq_getElem?_getD, hg]; rfl
    rw [hgd] at hP
    generalize s.l[m] = x at hg hP
    refine AW.skip ?_
    simp -implicitDefEqProofs only [go_sem, seval, ↓reduceIte]
    refine hK1 _ ?_
    refine AW.seq_k fun K hK => AW.region (by kernel_rfl) ?_
    simp -implicitDefEqProofs only [go_sem, seval, ↓reduceIte, hg]
    refine hK _ ?_
    clear hK K
    refine AW.ret ?_
    simp -implicitDefEqProofs only [go_sem, seval, ↓reduceIte]
    refine endK_some ?_
    rw [hP]
end Go.Hs
end
