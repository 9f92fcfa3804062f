/- Part 31 of the proof of a statement of seat Ythlkacbgaclkkaa: HsF13 HsF27 HsF21 HsF12 HsF38 HsTreeAll HsF07 HsF06 HsTreeSums HsF08 HsF10. -/
import Derived.Test.YthlkacbgaclkkaaPart30
import Derived.Test.YthlkacbgaclkkaaPart18
import Derived.Test.YthlkacbgaclkkaaPart24
import Derived.Test.YthlkacbgaclkkaaPart29
set_option linter.unusedSimpArgs false
set_option linter.unusedVariables false
section
namespace Go.Hs
open Go.Proofs
set_option maxRecDepth 10000
/-- What steps.Take yields. -/
def takeP (l : List Nd) (leaf : Int) (b : List Nd) : List Nd :=
  if rightP b = true ∧ (readyP l).contains leaf = true then takeAt l leaf b l.length (l.length - 1) else l.map Nd.copy
/- hopscotch/steps.Take -/
theorem take_spec (G : Nat → V) (hG : GOk G) (c1 c2 c3 c4 : Col) (t : Sl Nd) (leaf : Int) (b : Sl Nd) (ht : t.l.length < 1000000000) (hks : ∀ n ∈ t.l, n.kids.l.length < 1000000000)
    (hb : b.l.length < 1000000000) (hbk : ∀ n ∈ b.l, n.kids.l.length < 1000000000) (hr : (readyP t.l).length < 1000000000)
    (hok : rightP b.l = true ∧ (readyP t.l).contains leaf = true → TakeOk t.l leaf b.l t.l.length (t.l.length - 1)) :
    Spec Try.prog G 13 [encTree c1 c2 t, .int .i64 leaf, encTree c3 c4 b] hNone (fun v _ => v = encTree .new .new (grownS (takeP t.l leaf b.l))) := by
  refine Spec.of_code' 0 27 [ResultVar.cell 6 24] Try.func13 rfl rfl rfl rfl fun X => ?_
  refine AW.seq_k fun K hK => AW.region (by kernel_rfl) ?_
  simp -implicitDefEqProofs only [go_sem, ↓reduceIte, Nat.reduceEqDiff, Nat.reduceLT, Nat.reduceLeDiff, Nat.reduceAdd, Nat.reduceMul, Nat.reduceSub, Nat.reduceBEq, Int.reduceToNat, Int.reduceLT, Int.reduceLE, Int.reduceEq, Int.reduceNe, Int.reduceBEq, Int.reduceBNe, Int.reduceAdd, Int.reduceSub, Int.natCast_nonneg, Bool.false_eq_true, Bool.true_eq_false, eq_self]
  intro g3 g4 g5 g6
  refine hK _ ?_
  clear hK K
  refine AW.seqJ (fun (_ : Unit) => st [(3, .ptr 3 g3 0), (4, .ptr 4 g4 0), (5, .ptr 5 g5 0), (6, .ptr 6 g6 0)] [(3, .cells .new g3 0 [encSl c1 3 (encNd c2) t]), (4, .cells .new g4 0 [.int .i64 leaf]), (5, .cells .new g5 0 [encSl c3 3 (encNd c4) b]), (6, .cells .new g6 0 [.nils])]) (fun _ => rightP b.l = true ∧ (readyP t.l).contains leaf = true) (fun K1 hK1 => ?_) ?_
  · have copyit : ¬ (rightP b.l = true ∧ (readyP t.l).contains leaf = true) → encTree .new .new (grownS (t.l.map Nd.copy)) = encTree .new .new (grownS (takeP t.l leaf b.l)) := by
      intro h
      rw [takeP, if_neg h]
    have hright : ∀ c c', PureC Try.prog G 16 [encTree c c' b] (.bool (rightP b.l)) := fun c c' => ⟨by kernel_rfl, by
      simp -implicitDefEqProofs only [go_sem, ↓reduceIte, Nat.reduceEqDiff, Nat.reduceLT, Nat.reduceLeDiff, Nat.reduceAdd, Nat.reduceMul, Nat.reduceSub, Nat.reduceBEq, Int.reduceToNat, Int.reduceLT, Int.reduceLE, Int.reduceEq, Int.reduceNe, Int.reduceBEq, Int.reduceBNe, Int.reduceAdd, Int.reduceSub, Int.natCast_nonneg, Bool.false_eq_true, Bool.true_eq_false, eq_self]
      refine (right_spec G hG _ _ b hb hbk).mono ?_
      rintro _ _ rfl
      rfl⟩
    have hready : PureC Try.prog G 17 [encTree c1 c2 t] (encSl .any 1 (V.int .i64) (grownS (readyP t.l))) := ⟨by kernel_rfl, by
      simp -implicitDefEqProofs only [go_sem, ↓reduceIte, Nat.reduceEqDiff, Nat.reduceLT, Nat.reduceLeDiff, Nat.reduceAdd, Nat.reduceMul, Nat.reduceSub, Nat.reduceBEq, Int.reduceToNat, Int.reduceLT, Int.reduceLE, Int.reduceEq, Int.reduceNe, Int.reduceBEq, Int.reduceBNe, Int.reduceAdd, Int.reduceSub, Int.natCast_nonneg, Bool.false_eq_true, Bool.true_eq_false, eq_self]
      refine (ready_spec G hG _ _ t ht hks hr).mono ?_
      rintro _ _ rfl
      simp -implicitDefEqProofs only [go_sem, ↓reduceIte, Nat.reduceEqDiff, Nat.reduceLT, Nat.reduceLeDiff, Nat.reduceAdd, Nat.reduceMul, Nat.reduceSub, Nat.reduceBEq, Int.reduceToNat, Int.reduceLT, Int.reduceLE, Int.reduceEq, Int.reduceNe, Int.reduceBEq, Int.reduceBNe, Int.reduceAdd, Int.reduceSub, Int.natCast_nonneg, Bool.false_eq_true, Bool.true_eq_false, eq_self]⟩
    have hcont : PureC Try.prog G 28 [encSl .any 1 (V.int .i64) (grownS (readyP t.l)), .int .i64 leaf] (.bool ((readyP t.l).contains leaf)) := ⟨by kernel_rfl, by
      simp -implicitDefEqProofs only [go_sem, ↓reduceIte, Nat.reduceEqDiff, Nat.reduceLT, Nat.reduceLeDiff, Nat.reduceAdd, Nat.reduceMul, Nat.reduceSub, Nat.reduceBEq, Int.reduceToNat, Int.reduceLT, Int.reduceLE, Int.reduceEq, Int.reduceNe, Int.reduceBEq, Int.reduceBNe, Int.reduceAdd, Int.reduceSub, Int.natCast_nonneg, Bool.false_eq_true, Bool.true_eq_false, eq_self]
      refine (sContains_spec G hG _ (grownS (readyP t.l)) leaf (by rw [grownS_l]; exact hr)).mono ?_
      rintro _ _ rfl
      simp -implicitDefEqProofs only [go_sem, ↓reduceIte, Nat.reduceEqDiff, Nat.reduceLT, Nat.reduceLeDiff, Nat.reduceAdd, Nat.reduceMul, Nat.reduceSub, Nat.reduceBEq, Int.reduceToNat, Int.reduceLT, Int.reduceLE, Int.reduceEq, Int.reduceNe, Int.reduceBEq, Int.reduceBNe, Int.reduceAdd, Int.reduceSub, Int.natCast_nonneg, Bool.false_eq_true, Bool.true_eq_false, eq_self]⟩
    by_cases h1 : rightP b.l = true
    · refine AW.seq_k fun K hK => AW.regionT ⟨fun i => if i = 1 then .bool (rightP b.l) else if i = 5 then encSl .any 1 (V.int .i64) (grownS (readyP t.l)) else if i = 7 then .bool ((readyP t.l).contains leaf) else .top, fun _ => .pure⟩ (by kernel_rfl) hG (by kernel_rfl) (by kernel_rfl) ?_
      simp -implicitDefEqProofs only [go_sem, ↓reduceIte, Nat.reduceEqDiff, Nat.reduceLT, Nat.reduceLeDiff, Nat.reduceAdd, Nat.reduceMul, Nat.reduceSub, Nat.reduceBEq, Int.reduceToNat, Int.reduceLT, Int.reduceLE, Int.reduceEq, Int.reduceNe, Int.reduceBEq, Int.reduceBNe, Int.reduceAdd, Int.reduceSub, Int.natCast_nonneg, Bool.false_eq_true, Bool.true_eq_false, eq_self, h1]
      refine ⟨h1 ▸ hright _ _, hready, hcont, ?_⟩
      refine hK _ ?_
      clear hK K
      refine AW.condS (by simp -implicitDefEqProofs only [go_sem, ↓reduceIte, Nat.reduceEqDiff, Nat.reduceLT, Nat.reduceLeDiff, Nat.reduceAdd, Nat.reduceMul, Nat.reduceSub, Nat.reduceBEq, Int.reduceToNat, Int.reduceLT, Int.reduceLE, Int.reduceEq, Int.reduceNe, Int.reduceBEq, Int.reduceBNe, Int.reduceAdd, Int.reduceSub, Int.natCast_nonneg, Bool.false_eq_true, Bool.true_eq_false, eq_self]; rfl) (fun h2 => ?_) (fun h2 => ?_)
      · -- true
        refine AW.seq_k fun K hK => AW.region (by kernel_rfl) ?_
        simp -implicitDefEqProofs only [go_sem, ↓reduceIte, Nat.reduceEqDiff, Nat.reduceLT, Nat.reduceLeDiff, Nat.reduceAdd, Nat.reduceMul, Nat.reduceSub, Nat.reduceBEq, Int.reduceToNat, Int.reduceLT, Int.reduceLE, Int.reduceEq, Int.reduceNe, Int.reduceBEq, Int.reduceBNe, Int.reduceAdd, Int.reduceSub, Int.natCast_nonneg, Bool.false_eq_true, Bool.true_eq_false, eq_self]
        refine CallA.pure hG (by kernel_rfl) ?_
        simp -implicitDefEqProofs only [go_sem, ↓reduceIte, Nat.reduceEqDiff, Nat.reduceLT, Nat.reduceLeDiff, Nat.reduceAdd, Nat.reduceMul, Nat.reduceSub, Nat.reduceBEq, Int.reduceToNat, Int.reduceLT, Int.reduceLE, Int.reduceEq, Int.reduceNe, Int.reduceBEq, Int.reduceBNe, Int.reduceAdd, Int.reduceSub, Int.natCast_nonneg, Bool.false_eq_true, Bool.true_eq_false, eq_self]
        refine (copied_spec G hG _ _ t ht hks).mono ?_
        rintro _ _ rfl
        simp -implicitDefEqProofs only [go_sem, ↓reduceIte, Nat.reduceEqDiff, Nat.reduceLT, Nat.reduceLeDiff, Nat.reduceAdd, Nat.reduceMul, Nat.reduceSub, Nat.reduceBEq, Int.reduceToNat, Int.reduceLT, Int.reduceLE, Int.reduceEq, Int.reduceNe, Int.reduceBEq, Int.reduceBNe, Int.reduceAdd, Int.reduceSub, Int.natCast_nonneg, Bool.false_eq_true, Bool.true_eq_false, eq_self]
        refine hK _ ?_
        clear hK K
        refine AW.ret ?_
        simp -implicitDefEqProofs only [go_sem, ↓reduceIte, Nat.reduceEqDiff, Nat.reduceLT, Nat.reduceLeDiff, Nat.reduceAdd, Nat.reduceMul, Nat.reduceSub, Nat.reduceBEq, Int.reduceToNat, Int.reduceLT, Int.reduceLE, Int.reduceEq, Int.reduceNe, Int.reduceBEq, Int.reduceBNe, Int.reduceAdd, Int.reduceSub, Int.natCast_nonneg, Bool.false_eq_true, Bool.true_eq_false, eq_self]
        refine endK_some ?_
        exact copyit (by rintro ⟨_, h⟩; rw [h] at h2; simp at h2)
      · refine AW.skip ?_
        simp -implicitDefEqProofs only [go_sem, ↓reduceIte, Nat.reduceEqDiff, Nat.reduceLT, Nat.reduceLeDiff, Nat.reduceAdd, Nat.reduceMul, Nat.reduceSub, Nat.reduceBEq, Int.reduceToNat, Int.reduceLT, Int.reduceLE, Int.reduceEq, Int.reduceNe, Int.reduceBEq, Int.reduceBNe, Int.reduceAdd, Int.reduceSub, Int.natCast_nonneg, Bool.false_eq_true, Bool.true_eq_false, eq_self]
        exact hK1 _ () ⟨h1, by simpa using h2⟩ (Weak.st (by simp -implicitDefEqProofs only [go_sem, ↓reduceIte, Nat.reduceEqDiff, Nat.reduceLT, Nat.reduceLeDiff, Nat.reduceAdd, Nat.reduceMul, Nat.reduceSub, Nat.reduceBEq, Int.reduceToNat, Int.reduceLT, Int.reduceLE, Int.reduceEq, Int.reduceNe, Int.reduceBEq, Int.reduceBNe, Int.reduceAdd, Int.reduceSub, Int.natCast_nonneg, Bool.false_eq_true, Bool.true_eq_false, eq_self]) (by simp -implicitDefEqProofs only [go_sem, ↓reduceIte, Nat.reduceEqDiff, Nat.reduceLT, Nat.reduceLeDiff, Nat.reduceAdd, Nat.reduceMul, Nat.reduceSub, Nat.reduceBEq, Int.reduceToNat, Int.reduceLT, Int.reduceLE, Int.reduceEq, Int.reduceNe, Int.reduceBEq, Int.reduceBNe, Int.reduceAdd, Int.reduceSub, Int.natCast_nonneg, Bool.false_eq_true, Bool.true_eq_false, eq_self]))
    · have h1 : rightP b.l = false := by simpa using h1
      refine AW.seq_k fun K hK => AW.regionT ⟨fun i => if i = 1 then .bool (rightP b.l) else .top, fun _ => .pure⟩ (by kernel_rfl) hG (by kernel_rfl) (by kernel_rfl) ?_
      simp -implicitDefEqProofs only [go_sem, ↓reduceIte, Nat.reduceEqDiff, Nat.reduceLT, Nat.reduceLeDiff, Nat.reduceAdd, Nat.reduceMul, Nat.reduceSub, Nat.reduceBEq, Int.reduceToNat, Int.reduceLT, Int.reduceLE, Int.reduceEq, Int.reduceNe, Int.reduceBEq, Int.reduceBNe, Int.reduceAdd, Int.reduceSub, Int.natCast_nonneg, Bool.false_eq_true, Bool.true_eq_false, eq_self, h1]
      refine ⟨h1 ▸ hright _ _, ?_⟩
      refine hK _ ?_
      clear hK K
      refine AW.condS (by simp -implicitDefEqProofs only [go_sem, ↓reduceIte, Nat.reduceEqDiff, Nat.reduceLT, Nat.reduceLeDiff, Nat.reduceAdd, Nat.reduceMul, Nat.reduceSub, Nat.reduceBEq, Int.reduceToNat, Int.reduceLT, Int.reduceLE, Int.reduceEq, Int.reduceNe, Int.reduceBEq, Int.reduceBNe, Int.reduceAdd, Int.reduceSub, Int.natCast_nonneg, Bool.false_eq_true, Bool.true_eq_false, eq_self]; rfl) (fun h2 => ?_) (fun h2 => ?_)
      · -- true
        refine AW.seq_k fun K hK => AW.region (by kernel_rfl) ?_
        simp -implicitDefEqProofs only [go_sem, ↓reduceIte, Nat.reduceEqDiff, Nat.reduceLT, Nat.reduceLeDiff, Nat.reduceAdd, Nat.reduceMul, Nat.reduceSub, Nat.reduceBEq, Int.reduceToNat, Int.reduceLT, Int.reduceLE, Int.reduceEq, Int.reduceNe, Int.reduceBEq, Int.reduceBNe, Int.reduceAdd, Int.reduceSub, Int.natCast_nonneg, Bool.false_eq_true, Bool.true_eq_false, eq_self]
        refine CallA.pure hG (by kernel_rfl) ?_
        simp -implicitDefEqProofs only [go_sem, ↓reduceIte, Nat.reduceEqDiff, Nat.reduceLT, Nat.reduceLeDiff, Nat.reduceAdd, Nat.reduceMul, Nat.reduceSub, Nat.reduceBEq, Int.reduceToNat, Int.reduceLT, Int.reduceLE, Int.reduceEq, Int.reduceNe, Int.reduceBEq, Int.reduceBNe, Int.reduceAdd, Int.reduceSub, Int.natCast_nonneg, Bool.false_eq_true, Bool.true_eq_false, eq_self]
        refine (copied_spec G hG _ _ t ht hks).mono ?_
        rintro _ _ rfl
        simp -implicitDefEqProofs only [go_sem, ↓reduceIte, Nat.reduceEqDiff, Nat.reduceLT, Nat.reduceLeDiff, Nat.reduceAdd, Nat.reduceMul, Nat.reduceSub, Nat.reduceBEq, Int.reduceToNat, Int.reduceLT, Int.reduceLE, Int.reduceEq, Int.reduceNe, Int.reduceBEq, Int.reduceBNe, Int.reduceAdd, Int.reduceSub, Int.natCast_nonneg, Bool.false_eq_true, Bool.true_eq_false, eq_self]
        refine hK _ ?_
        clear hK K
        refine AW.ret ?_
        simp -implicitDefEqProofs only [go_sem, ↓reduceIte, Nat.reduceEqDiff, Nat.reduceLT, Nat.reduceLeDiff, Nat.reduceAdd, Nat.reduceMul, Nat.reduceSub, Nat.reduceBEq, Int.reduceToNat, Int.reduceLT, Int.reduceLE, Int.reduceEq, Int.reduceNe, Int.reduceBEq, Int.reduceBNe, Int.reduceAdd, Int.reduceSub, Int.natCast_nonneg, Bool.false_eq_true, Bool.true_eq_false, eq_self]
        refine endK_some ?_
        exact copyit (by rintro ⟨h, _⟩; rw [h] at h1; simp at h1)
      · simp at h2
  · intro _ hgood
    have h0 : 0 < t.l.length := by
      have h := hgood.2
      rcases Nat.eq_zero_or_pos t.l.length with h0 | h0
      · rw [readyP, if_pos (.inl h0)] at h; simp at h
      · exact h0
    refine AW.seq_k fun K hK => AW.region (by kernel_rfl) ?_
    simp -implicitDefEqProofs only [go_sem, ↓reduceIte, Nat.reduceEqDiff, Nat.reduceLT, Nat.reduceLeDiff, Nat.reduceAdd, Nat.reduceMul, Nat.reduceSub, Nat.reduceBEq, Int.reduceToNat, Int.reduceLT, Int.reduceLE, Int.reduceEq, Int.reduceNe, Int.reduceBEq, Int.reduceBNe, Int.reduceAdd, Int.reduceSub, Int.natCast_nonneg, Bool.false_eq_true, Bool.true_eq_false, eq_self]
    intro g7
    refine hK _ ?_
    clear hK K
    refine AW.seq_k fun K hK => AW.region (by kernel_rfl) ?_
    simp -implicitDefEqProofs only [go_sem, ↓reduceIte, Nat.reduceEqDiff, Nat.reduceLT, Nat.reduceLeDiff, Nat.reduceAdd, Nat.reduceMul, Nat.reduceSub, Nat.reduceBEq, Int.reduceToNat, Int.reduceLT, Int.reduceLE, Int.reduceEq, Int.reduceNe, Int.reduceBEq, Int.reduceBNe, Int.reduceAdd, Int.reduceSub, Int.natCast_nonneg, Bool.false_eq_true, Bool.true_eq_false, eq_self]
    refine hK _ ?_
    clear hK K
    refine AW.weak (Weak.stF (fun o => o == 3 || o == 4 || o == 5) (l := [(3, .view .new (encTree c1 c2 t)), (4, .view .new (.int .i64 leaf)), (5, .view .new (encTree c3 c4 b)), (6, .ptr 6 g6 0), (7, .ptr 7 g7 0)])
      (m := [(6, .cells .new g6 0 [.nils]), (7, .cells .any g7 0 [.func (.func 30) [] [.view .new (encTree c1 c2 t), .view .new (.int .i64 leaf), .view .new (encTree c3 c4 b), .ptr 7 g7 0]])]) ?_ ?_) ?_
    · simp -implicitDefEqProofs only [go_sem, ↓reduceIte, Nat.reduceEqDiff, Nat.reduceLT, Nat.reduceLeDiff, Nat.reduceAdd, Nat.reduceMul, Nat.reduceSub, Nat.reduceBEq, Int.reduceToNat, Int.reduceLT, Int.reduceLE, Int.reduceEq, Int.reduceNe, Int.reduceBEq, Int.reduceBNe, Int.reduceAdd, Int.reduceSub, Int.natCast_nonneg, Bool.false_eq_true, Bool.true_eq_false, eq_self]
      exact ⟨Fz.ptr (v := encTree c1 c2 t) (fz := 0) rfl (by simp -implicitDefEqProofs only [go_sem, ↓reduceIte, Nat.reduceEqDiff, Nat.reduceLT, Nat.reduceLeDiff, Nat.reduceAdd, Nat.reduceMul, Nat.reduceSub, Nat.reduceBEq, Int.reduceToNat, Int.reduceLT, Int.reduceLE, Int.reduceEq, Int.reduceNe, Int.reduceBEq, Int.reduceBNe, Int.reduceAdd, Int.reduceSub, Int.natCast_nonneg, Bool.false_eq_true, Bool.true_eq_false, eq_self]), Fz.ptr (v := .int .i64 leaf) (fz := 0) rfl (by simp -implicitDefEqProofs only [go_sem, ↓reduceIte, Nat.reduceEqDiff, Nat.reduceLT, Nat.reduceLeDiff, Nat.reduceAdd, Nat.reduceMul, Nat.reduceSub, Nat.reduceBEq, Int.reduceToNat, Int.reduceLT, Int.reduceLE, Int.reduceEq, Int.reduceNe, Int.reduceBEq, Int.reduceBNe, Int.reduceAdd, Int.reduceSub, Int.natCast_nonneg, Bool.false_eq_true, Bool.true_eq_false, eq_self]; try rfl), Fz.ptr (v := encTree c3 c4 b) (fz := 0) rfl (by simp -implicitDefEqProofs only [go_sem, ↓reduceIte, Nat.reduceEqDiff, Nat.reduceLT, Nat.reduceLeDiff, Nat.reduceAdd, Nat.reduceMul, Nat.reduceSub, Nat.reduceBEq, Int.reduceToNat, Int.reduceLT, Int.reduceLE, Int.reduceEq, Int.reduceNe, Int.reduceBEq, Int.reduceBNe, Int.reduceAdd, Int.reduceSub, Int.natCast_nonneg, Bool.false_eq_true, Bool.true_eq_false, eq_self]), Fz.same _, Fz.same _⟩
    · simp only [allFzO_cons, allFzO_nil, and_true]
      exact ⟨FzO.keep rfl (by simp -implicitDefEqProofs only [go_sem, ↓reduceIte, Nat.reduceEqDiff, Nat.reduceLT, Nat.reduceLeDiff, Nat.reduceAdd, Nat.reduceMul, Nat.reduceSub, Nat.reduceBEq, Int.reduceToNat, Int.reduceLT, Int.reduceLE, Int.reduceEq, Int.reduceNe, Int.reduceBEq, Int.reduceBNe, Int.reduceAdd, Int.reduceSub, Int.natCast_nonneg, Bool.false_eq_true, Bool.true_eq_false, eq_self]), FzO.anyOf (c := .new) (fz := 0) (cs := [.func (.func 30) [] [.ptr 3 g3 0, .ptr 4 g4 0, .ptr 5 g5 0, .ptr 7 g7 0]]) rfl (by simp -implicitDefEqProofs only [go_sem, ↓reduceIte, Nat.reduceEqDiff, Nat.reduceLT, Nat.reduceLeDiff, Nat.reduceAdd, Nat.reduceMul, Nat.reduceSub, Nat.reduceBEq, Int.reduceToNat, Int.reduceLT, Int.reduceLE, Int.reduceEq, Int.reduceNe, Int.reduceBEq, Int.reduceBNe, Int.reduceAdd, Int.reduceSub, Int.natCast_nonneg, Bool.false_eq_true, Bool.true_eq_false, eq_self]) ⟨Fz.func ⟨Fz.ptr (v := encTree c1 c2 t) (fz := 0) rfl (by simp -implicitDefEqProofs only [go_sem, ↓reduceIte, Nat.reduceEqDiff, Nat.reduceLT, Nat.reduceLeDiff, Nat.reduceAdd, Nat.reduceMul, Nat.reduceSub, Nat.reduceBEq, Int.reduceToNat, Int.reduceLT, Int.reduceLE, Int.reduceEq, Int.reduceNe, Int.reduceBEq, Int.reduceBNe, Int.reduceAdd, Int.reduceSub, Int.natCast_nonneg, Bool.false_eq_true, Bool.true_eq_false, eq_self]), Fz.ptr (v := .int .i64 leaf) (fz := 0) rfl (by simp -implicitDefEqProofs only [go_sem, ↓reduceIte, Nat.reduceEqDiff, Nat.reduceLT, Nat.reduceLeDiff, Nat.reduceAdd, Nat.reduceMul, Nat.reduceSub, Nat.reduceBEq, Int.reduceToNat, Int.reduceLT, Int.reduceLE, Int.reduceEq, Int.reduceNe, Int.reduceBEq, Int.reduceBNe, Int.reduceAdd, Int.reduceSub, Int.natCast_nonneg, Bool.false_eq_true, Bool.true_eq_false, eq_self]; try rfl), Fz.ptr (v := encTree c3 c4 b) (fz := 0) rfl (by simp -implicitDefEqProofs only [go_sem, ↓reduceIte, Nat.reduceEqDiff, Nat.reduceLT, Nat.reduceLeDiff, Nat.reduceAdd, Nat.reduceMul, Nat.reduceSub, Nat.reduceBEq, Int.reduceToNat, Int.reduceLT, Int.reduceLE, Int.reduceEq, Int.reduceNe, Int.reduceBEq, Int.reduceBNe, Int.reduceAdd, Int.reduceSub, Int.natCast_nonneg, Bool.false_eq_true, Bool.true_eq_false, eq_self]), Fz.same _, trivial⟩, trivial⟩⟩
    refine AW.weak (Weak.stF (fun o => false) (l := [(3, .view .any (encTree .any .any t)), (6, .ptr 6 g6 0), (7, .ptr 7 g7 0)])
      (m := [(6, .cells .new g6 0 [.nils]), (7, .cells .any g7 0 [anewF t leaf b g7])]) ?_ ?_) ?_
    · simp -implicitDefEqProofs only [go_sem, ↓reduceIte, Nat.reduceEqDiff, Nat.reduceLT, Nat.reduceLeDiff, Nat.reduceAdd, Nat.reduceMul, Nat.reduceSub, Nat.reduceBEq, Int.reduceToNat, Int.reduceLT, Int.reduceLE, Int.reduceEq, Int.reduceNe, Int.reduceBEq, Int.reduceBNe, Int.reduceAdd, Int.reduceSub, Int.natCast_nonneg, Bool.false_eq_true, Bool.true_eq_false, eq_self]
      exact ⟨Fz.any (by simp -implicitDefEqProofs only [go_sem, ↓reduceIte, Nat.reduceEqDiff, Nat.reduceLT, Nat.reduceLeDiff, Nat.reduceAdd, Nat.reduceMul, Nat.reduceSub, Nat.reduceBEq, Int.reduceToNat, Int.reduceLT, Int.reduceLE, Int.reduceEq, Int.reduceNe, Int.reduceBEq, Int.reduceBNe, Int.reduceAdd, Int.reduceSub, Int.natCast_nonneg, Bool.false_eq_true, Bool.true_eq_false, eq_self]), Fz.same _, Fz.same _⟩
    · simp only [allFzO_cons, allFzO_nil, and_true]
      exact ⟨FzO.keep rfl (by simp -implicitDefEqProofs only [go_sem, ↓reduceIte, Nat.reduceEqDiff, Nat.reduceLT, Nat.reduceLeDiff, Nat.reduceAdd, Nat.reduceMul, Nat.reduceSub, Nat.reduceBEq, Int.reduceToNat, Int.reduceLT, Int.reduceLE, Int.reduceEq, Int.reduceNe, Int.reduceBEq, Int.reduceBNe, Int.reduceAdd, Int.reduceSub, Int.natCast_nonneg, Bool.false_eq_true, Bool.true_eq_false, eq_self]), FzO.of (c := .any) (fz := 0) (cs := [.func (.func 30) [] [.view .new (encTree c1 c2 t), .view .new (.int .i64 leaf), .view .new (encTree c3 c4 b), .ptr 7 g7 0]]) rfl (by simp -implicitDefEqProofs only [go_sem, ↓reduceIte, Nat.reduceEqDiff, Nat.reduceLT, Nat.reduceLeDiff, Nat.reduceAdd, Nat.reduceMul, Nat.reduceSub, Nat.reduceBEq, Int.reduceToNat, Int.reduceLT, Int.reduceLE, Int.reduceEq, Int.reduceNe, Int.reduceBEq, Int.reduceBNe, Int.reduceAdd, Int.reduceSub, Int.natCast_nonneg, Bool.false_eq_true, Bool.true_eq_false, eq_self]) ⟨Fz.any (by simp -implicitDefEqProofs only [go_sem, ↓reduceIte, Nat.reduceEqDiff, Nat.reduceLT, Nat.reduceLeDiff, Nat.reduceAdd, Nat.reduceMul, Nat.reduceSub, Nat.reduceBEq, Int.reduceToNat, Int.reduceLT, Int.reduceLE, Int.reduceEq, Int.reduceNe, Int.reduceBEq, Int.reduceBNe, Int.reduceAdd, Int.reduceSub, Int.natCast_nonneg, Bool.false_eq_true, Bool.true_eq_false, eq_self]; rfl), trivial⟩⟩
    have hw : IntKind.i64.wrap ((t.l.length : Int) - 1) = ((t.l.length - 1 : Nat) : Int) := by rw [w64 (by omega) (by omega)]; omega
    refine AW.seq_k fun K hK => AW.region (by kernel_rfl) ?_
    simp -implicitDefEqProofs only [go_sem, ↓reduceIte, Nat.reduceEqDiff, Nat.reduceLT, Nat.reduceLeDiff, Nat.reduceAdd, Nat.reduceMul, Nat.reduceSub, Nat.reduceBEq, Int.reduceToNat, Int.reduceLT, Int.reduceLE, Int.reduceEq, Int.reduceNe, Int.reduceBEq, Int.reduceBNe, Int.reduceAdd, Int.reduceSub, Int.natCast_nonneg, Bool.false_eq_true, Bool.true_eq_false, eq_self, anewF, hw]
    refine AnewS.call hG (anew_spec G hG t ht hks leaf b hb hbk g7 t.l.length (t.l.length - 1) (hok hgood)) (by simp -implicitDefEqProofs only [go_sem, ↓reduceIte, Nat.reduceEqDiff, Nat.reduceLT, Nat.reduceLeDiff, Nat.reduceAdd, Nat.reduceMul, Nat.reduceSub, Nat.reduceBEq, Int.reduceToNat, Int.reduceLT, Int.reduceLE, Int.reduceEq, Int.reduceNe, Int.reduceBEq, Int.reduceBNe, Int.reduceAdd, Int.reduceSub, Int.natCast_nonneg, Bool.false_eq_true, Bool.true_eq_false, eq_self]; try rfl) ?_
    simp -implicitDefEqProofs only [go_sem, ↓reduceIte, Nat.reduceEqDiff, Nat.reduceLT, Nat.reduceLeDiff, Nat.reduceAdd, Nat.reduceMul, Nat.reduceSub, Nat.reduceBEq, Int.reduceToNat, Int.reduceLT, Int.reduceLE, Int.reduceEq, Int.reduceNe, Int.reduceBEq, Int.reduceBNe, Int.reduceAdd, Int.reduceSub, Int.natCast_nonneg, Bool.false_eq_true, Bool.true_eq_false, eq_self, sets]
    refine hK _ ?_
    clear hK K
    refine AW.ret ?_
    simp -implicitDefEqProofs only [go_sem, ↓reduceIte, Nat.reduceEqDiff, Nat.reduceLT, Nat.reduceLeDiff, Nat.reduceAdd, Nat.reduceMul, Nat.reduceSub, Nat.reduceBEq, Int.reduceToNat, Int.reduceLT, Int.reduceLE, Int.reduceEq, Int.reduceNe, Int.reduceBEq, Int.reduceBNe, Int.reduceAdd, Int.reduceSub, Int.natCast_nonneg, Bool.false_eq_true, Bool.true_eq_false, eq_self]
    refine endK_some ?_
    rw [takeP, if_pos hgood]
end Go.Hs
end

section
namespace Go.Hs
open Go.Proofs
set_option maxRecDepth 10000

/- hopscotch/hopscotchref22.size -/
theorem size_spec (G : Nat → V) (hG : GOk G) : ∀ (n : Nat) (c : Col) (p : Pt), p.dep ≤ n → p.v.size < 1000000000 → (p.op = 0 ∨ p.v.full = true) →
    Spec Try.prog G 27 [encPt c p] hNone (fun v _ => v = .int .i64 p.v.size) := by
  intro n
  induction n with
  | zero => intro c p hd; obtain ⟨_, _, _, _⟩ := p; simp [Pt.dep] at hd
  | succ n ih =>
  intro c p hd hs hf
  refine Spec.of_code' 0 24 [.tmp 2] Try.func27 rfl rfl rfl rfl fun X => ?_
  refine AW.seq_k fun K hK => AW.region (by kernel_rfl) ?_
  simp -implicitDefEqProofs only [go_sem, ↓reduceIte, Nat.reduceEqDiff, Nat.reduceLT, Nat.reduceLeDiff, Nat.reduceAdd, Nat.reduceMul, Nat.reduceSub, Nat.reduceBEq, Int.reduceToNat, Int.reduceLT, Int.reduceLE, Int.reduceEq, Int.reduceNe, Int.reduceBEq, Int.reduceBNe, Int.reduceAdd, Int.reduceSub, Int.natCast_nonneg, Bool.false_eq_true, Bool.true_eq_false, eq_self]
  intro g1
  refine hK _ ?_
  clear hK K
  refine AW.seq_k fun K1 hK1 => ?_
  refine AW.seq_k fun K hK => AW.region (by kernel_rfl) ?_
  simp -implicitDefEqProofs only [go_sem, ↓reduceIte, Nat.reduceEqDiff, Nat.reduceLT, Nat.reduceLeDiff, Nat.reduceAdd, Nat.reduceMul, Nat.reduceSub, Nat.reduceBEq, Int.reduceToNat, Int.reduceLT, Int.reduceLE, Int.reduceEq, Int.reduceNe, Int.reduceBEq, Int.reduceBNe, Int.reduceAdd, Int.reduceSub, Int.natCast_nonneg, Bool.false_eq_true, Bool.true_eq_false, eq_self]
  refine hK _ ?_
  clear hK K
  refine AW.condS (by simp -implicitDefEqProofs only [go_sem, ↓reduceIte, Nat.reduceEqDiff, Nat.reduceLT, Nat.reduceLeDiff, Nat.reduceAdd, Nat.reduceMul, Nat.reduceSub, Nat.reduceBEq, Int.reduceToNat, Int.reduceLT, Int.reduceLE, Int.reduceEq, Int.reduceNe, Int.reduceBEq, Int.reduceBNe, Int.reduceAdd, Int.reduceSub, Int.natCast_nonneg, Bool.false_eq_true, Bool.true_eq_false, eq_self]; rfl) (fun h2 => ?_) (fun h2 => ?_)
  · -- true
    refine AW.seq_k fun K hK => AW.region (by kernel_rfl) ?_
    simp -implicitDefEqProofs only [go_sem, ↓reduceIte, Nat.reduceEqDiff, Nat.reduceLT, Nat.reduceLeDiff, Nat.reduceAdd, Nat.reduceMul, Nat.reduceSub, Nat.reduceBEq, Int.reduceToNat, Int.reduceLT, Int.reduceLE, Int.reduceEq, Int.reduceNe, Int.reduceBEq, Int.reduceBNe, Int.reduceAdd, Int.reduceSub, Int.natCast_nonneg, Bool.false_eq_true, Bool.true_eq_false, eq_self]
    refine hK _ ?_
    clear hK K
    refine AW.ret ?_
    simp -implicitDefEqProofs only [go_sem, ↓reduceIte, Nat.reduceEqDiff, Nat.reduceLT, Nat.reduceLeDiff, Nat.reduceAdd, Nat.reduceMul, Nat.reduceSub, Nat.reduceBEq, Int.reduceToNat, Int.reduceLT, Int.reduceLE, Int.reduceEq, Int.reduceNe, Int.reduceBEq, Int.reduceBNe, Int.reduceAdd, Int.reduceSub, Int.natCast_nonneg, Bool.false_eq_true, Bool.true_eq_false, eq_self]
    refine endK_some ?_
    simp at h2
    rw [T.size_K, Pt.op_v, if_pos h2]
    rfl
  · -- false
    refine AW.skip ?_
    simp -implicitDefEqProofs only [go_sem, ↓reduceIte, Nat.reduceEqDiff, Nat.reduceLT, Nat.reduceLeDiff, Nat.reduceAdd, Nat.reduceMul, Nat.reduceSub, Nat.reduceBEq, Int.reduceToNat, Int.reduceLT, Int.reduceLE, Int.reduceEq, Int.reduceNe, Int.reduceBEq, Int.reduceBNe, Int.reduceAdd, Int.reduceSub, Int.natCast_nonneg, Bool.false_eq_true, Bool.true_eq_false, eq_self]
    refine hK1 _ ?_
    have h0 : p.op ≠ 0 := by simpa using h2
    have hf : p.v.full = true := hf.resolve_left h0
    have hkl := T.full_kids hf
    rw [Pt.kids_v, List.length_map] at hkl
    have hsz : p.v.size = 1 + (p.ks.l.map fun q => q.v.size).sum := by
      rw [T.size_K, Pt.op_v, if_neg h0, Pt.kids_v, List.map_map]; rfl
    refine AW.seq_k fun K hK => AW.region (by kernel_rfl) ?_
    simp -implicitDefEqProofs only [go_sem, ↓reduceIte, Nat.reduceEqDiff, Nat.reduceLT, Nat.reduceLeDiff, Nat.reduceAdd, Nat.reduceMul, Nat.reduceSub, Nat.reduceBEq, Int.reduceToNat, Int.reduceLT, Int.reduceLE, Int.reduceEq, Int.reduceNe, Int.reduceBEq, Int.reduceBNe, Int.reduceAdd, Int.reduceSub, Int.natCast_nonneg, Bool.false_eq_true, Bool.true_eq_false, eq_self]
    refine hK _ ?_
    clear hK K
    refine AW.seq_k fun K3 hK3 => ?_
    refine AW.seq_k fun K hK => AW.region (by kernel_rfl) ?_
    simp -implicitDefEqProofs only [go_sem, ↓reduceIte, Nat.reduceEqDiff, Nat.reduceLT, Nat.reduceLeDiff, Nat.reduceAdd, Nat.reduceMul, Nat.reduceSub, Nat.reduceBEq, Int.reduceToNat, Int.reduceLT, Int.reduceLE, Int.reduceEq, Int.reduceNe, Int.reduceBEq, Int.reduceBNe, Int.reduceAdd, Int.reduceSub, Int.natCast_nonneg, Bool.false_eq_true, Bool.true_eq_false, eq_self]
    refine hK _ ?_
    clear hK K
    refine AW.block ?_
    refine AW.for p.ks.l.length (fun k (_ : Unit) => st [(1, .ptr 1 g1 0), (3, .int .i64 ((1 + ((p.ks.l.take k).map fun q => q.v.size).sum : Nat) : Int)), (4, .int .i64 k)]
        [(1, .cells .new g1 0 [.int .u8 p.op, .int .i64 p.pl, encSl c 3 (encPt c) p.ks])]) (fun k _ => True) 0 () (Nat.zero_le _) (by simp)
      (Weak.st (by simp -implicitDefEqProofs only [go_sem, ↓reduceIte, Nat.reduceEqDiff, Nat.reduceLT, Nat.reduceLeDiff, Nat.reduceAdd, Nat.reduceMul, Nat.reduceSub, Nat.reduceBEq, Int.reduceToNat, Int.reduceLT, Int.reduceLE, Int.reduceEq, Int.reduceNe, Int.reduceBEq, Int.reduceBNe, Int.reduceAdd, Int.reduceSub, Int.natCast_nonneg, Bool.false_eq_true, Bool.true_eq_false, eq_self]; simp) (by simp -implicitDefEqProofs only [go_sem, ↓reduceIte, Nat.reduceEqDiff, Nat.reduceLT, Nat.reduceLeDiff, Nat.reduceAdd, Nat.reduceMul, Nat.reduceSub, Nat.reduceBEq, Int.reduceToNat, Int.reduceLT, Int.reduceLE, Int.reduceEq, Int.reduceNe, Int.reduceBEq, Int.reduceBNe, Int.reduceAdd, Int.reduceSub, Int.natCast_nonneg, Bool.false_eq_true, Bool.true_eq_false, eq_self])) ?_
    intro k _ hk hR L4 hL4
    refine AW.seq_k fun K5 hK5 => ?_
    refine AW.seq_k fun K hK => AW.region (by kernel_rfl) ?_
    simp -implicitDefEqProofs only [go_sem, ↓reduceIte, Nat.reduceEqDiff, Nat.reduceLT, Nat.reduceLeDiff, Nat.reduceAdd, Nat.reduceMul, Nat.reduceSub, Nat.reduceBEq, Int.reduceToNat, Int.reduceLT, Int.reduceLE, Int.reduceEq, Int.reduceNe, Int.reduceBEq, Int.reduceBNe, Int.reduceAdd, Int.reduceSub, Int.natCast_nonneg, Bool.false_eq_true, Bool.true_eq_false, eq_self]
    refine hK _ ?_
    clear hK K
    refine AW.condS (by simp -implicitDefEqProofs only [go_sem, ↓reduceIte, Nat.reduceEqDiff, Nat.reduceLT, Nat.reduceLeDiff, Nat.reduceAdd, Nat.reduceMul, Nat.reduceSub, Nat.reduceBEq, Int.reduceToNat, Int.reduceLT, Int.reduceLE, Int.reduceEq, Int.reduceNe, Int.reduceBEq, Int.reduceBNe, Int.reduceAdd, Int.reduceSub, Int.natCast_nonneg, Bool.false_eq_true, Bool.true_eq_false, eq_self]; rfl) (fun h6 => ?_) (fun h6 => ?_)
    · -- true
      refine AW.skip ?_
      simp -implicitDefEqProofs only [go_sem, ↓reduceIte, Nat.reduceEqDiff, Nat.reduceLT, Nat.reduceLeDiff, Nat.reduceAdd, Nat.reduceMul, Nat.reduceSub, Nat.reduceBEq, Int.reduceToNat, Int.reduceLT, Int.reduceLE, Int.reduceEq, Int.reduceNe, Int.reduceBEq, Int.reduceBNe, Int.reduceAdd, Int.reduceSub, Int.natCast_nonneg, Bool.false_eq_true, Bool.true_eq_false, eq_self]
      refine hK5 _ ?_
      have hk1 : k < p.ks.l.length := by simpa using h6
      have hgi := List.getElem?_eq_getElem hk1
      refine AW.seq_k fun K7 hK7 => ?_
      refine AW.block ?_
      refine AW.region (by kernel_rfl) ?_
      simp -implicitDefEqProofs only [go_sem, ↓reduceIte, Nat.reduceEqDiff, Nat.reduceLT, Nat.reduceLeDiff, Nat.reduceAdd, Nat.reduceMul, Nat.reduceSub, Nat.reduceBEq, Int.reduceToNat, Int.reduceLT, Int.reduceLE, Int.reduceEq, Int.reduceNe, Int.reduceBEq, Int.reduceBNe, Int.reduceAdd, Int.reduceSub, Int.natCast_nonneg, Bool.false_eq_true, Bool.true_eq_false, eq_self, hgi]
      refine CallA.pure hG (by kernel_rfl) ?_
      simp -implicitDefEqProofs only [go_sem, ↓reduceIte, Nat.reduceEqDiff, Nat.reduceLT, Nat.reduceLeDiff, Nat.reduceAdd, Nat.reduceMul, Nat.reduceSub, Nat.reduceBEq, Int.reduceToNat, Int.reduceLT, Int.reduceLE, Int.reduceEq, Int.reduceNe, Int.reduceBEq, Int.reduceBNe, Int.reduceAdd, Int.reduceSub, Int.natCast_nonneg, Bool.false_eq_true, Bool.true_eq_false, eq_self]
      have hq := List.getElem_mem hk1
      have hqv : p.ks.l[k].v ∈ p.v.kids := by rw [Pt.kids_v]; exact List.mem_map_of_mem hq
      have hle : p.ks.l[k].v.size ≤ (p.ks.l.map fun q => q.v.size).sum := sum_le_of_mem (List.mem_map_of_mem (f := fun q : Pt => q.v.size) hq)
      have hih := ih c.ent p.ks.l[k] (by have := Pt.dep_kid hq; omega) (by omega) (.inr (((T.full_K _).1 hf).2 _ hqv))
      rw [encPt_K] at hih
      refine hih.mono ?_
      rintro _ _ rfl
      simp -implicitDefEqProofs only [go_sem, ↓reduceIte, Nat.reduceEqDiff, Nat.reduceLT, Nat.reduceLeDiff, Nat.reduceAdd, Nat.reduceMul, Nat.reduceSub, Nat.reduceBEq, Int.reduceToNat, Int.reduceLT, Int.reduceLE, Int.reduceEq, Int.reduceNe, Int.reduceBEq, Int.reduceBNe, Int.reduceAdd, Int.reduceSub, Int.natCast_nonneg, Bool.false_eq_true, Bool.true_eq_false, eq_self]
      refine hK7 _ ?_
      refine AW.region (by kernel_rfl) ?_
      simp -implicitDefEqProofs only [go_sem, ↓reduceIte, Nat.reduceEqDiff, Nat.reduceLT, Nat.reduceLeDiff, Nat.reduceAdd, Nat.reduceMul, Nat.reduceSub, Nat.reduceBEq, Int.reduceToNat, Int.reduceLT, Int.reduceLE, Int.reduceEq, Int.reduceNe, Int.reduceBEq, Int.reduceBNe, Int.reduceAdd, Int.reduceSub, Int.natCast_nonneg, Bool.false_eq_true, Bool.true_eq_false, eq_self]
      have htk := sum_take_le (p.ks.l.map fun q => q.v.size) (k + 1)
      rw [← List.map_take, List.take_succ_eq_append_getElem hk1, List.map_append, List.sum_append] at htk
      refine hL4 _ ⟨hk1, (), trivial, Weak.st (by simp -implicitDefEqProofs only [go_sem, ↓reduceIte, Nat.reduceEqDiff, Nat.reduceLT, Nat.reduceLeDiff, Nat.reduceAdd, Nat.reduceMul, Nat.reduceSub, Nat.reduceBEq, Int.reduceToNat, Int.reduceLT, Int.reduceLE, Int.reduceEq, Int.reduceNe, Int.reduceBEq, Int.reduceBNe, Int.reduceAdd, Int.reduceSub, Int.natCast_nonneg, Bool.false_eq_true, Bool.true_eq_false, eq_self]; refine ⟨?_, ?_⟩; · { rw [List.take_succ_eq_append_getElem hk1, List.map_append, List.sum_append]; simp at htk ⊢; rw [w64 (by omega) (by omega)]; omega }; · exact congrArg _ (w64 (by omega) (by omega))) (by simp -implicitDefEqProofs only [go_sem, ↓reduceIte, Nat.reduceEqDiff, Nat.reduceLT, Nat.reduceLeDiff, Nat.reduceAdd, Nat.reduceMul, Nat.reduceSub, Nat.reduceBEq, Int.reduceToNat, Int.reduceLT, Int.reduceLE, Int.reduceEq, Int.reduceNe, Int.reduceBEq, Int.reduceBNe, Int.reduceAdd, Int.reduceSub, Int.natCast_nonneg, Bool.false_eq_true, Bool.true_eq_false, eq_self])⟩
    · -- false
      refine AW.exit ?_
      simp -implicitDefEqProofs only [go_sem, ↓reduceIte, Nat.reduceEqDiff, Nat.reduceLT, Nat.reduceLeDiff, Nat.reduceAdd, Nat.reduceMul, Nat.reduceSub, Nat.reduceBEq, Int.reduceToNat, Int.reduceLT, Int.reduceLE, Int.reduceEq, Int.reduceNe, Int.reduceBEq, Int.reduceBNe, Int.reduceAdd, Int.reduceSub, Int.natCast_nonneg, Bool.false_eq_true, Bool.true_eq_false, eq_self]
      refine hK3 _ ?_
      have hk1 : k = p.ks.l.length := by simp at h6; omega
      refine AW.seq_k fun K hK => AW.region (by kernel_rfl) ?_
      simp -implicitDefEqProofs only [go_sem, ↓reduceIte, Nat.reduceEqDiff, Nat.reduceLT, Nat.reduceLeDiff, Nat.reduceAdd, Nat.reduceMul, Nat.reduceSub, Nat.reduceBEq, Int.reduceToNat, Int.reduceLT, Int.reduceLE, Int.reduceEq, Int.reduceNe, Int.reduceBEq, Int.reduceBNe, Int.reduceAdd, Int.reduceSub, Int.natCast_nonneg, Bool.false_eq_true, Bool.true_eq_false, eq_self]
      refine hK _ ?_
      clear hK K
      refine AW.ret ?_
      simp -implicitDefEqProofs only [go_sem, ↓reduceIte, Nat.reduceEqDiff, Nat.reduceLT, Nat.reduceLeDiff, Nat.reduceAdd, Nat.reduceMul, Nat.reduceSub, Nat.reduceBEq, Int.reduceToNat, Int.reduceLT, Int.reduceLE, Int.reduceEq, Int.reduceNe, Int.reduceBEq, Int.reduceBNe, Int.reduceAdd, Int.reduceSub, Int.natCast_nonneg, Bool.false_eq_true, Bool.true_eq_false, eq_self]
      refine endK_some ?_
      rw [hk1, List.take_length, hsz]
end Go.Hs
end

section
namespace Go.Hs
open Go.Proofs
set_option maxRecDepth 10000

/- hopscotch/hopscotchref22.Put -/
theorem rPut_spec (G : Nat → V) (hG : GOk G) (op : Int) (a : Sl Pt) (ha : a.l.length < 1000000000) (hp : (a.l.flatMap (Pt.putKids op)).length < 1000000000) :
    Spec Try.prog G 21 [.int .u8 op, encSl .any 3 (encPt .any) a] hNone (fun v _ => v = encPt .any (Pt.put op a.l)) := by
  refine Spec.of_code' 0 53 [ResultVar.cell 4 31] Try.func21 rfl rfl rfl rfl fun X => ?_
  refine AW.seq_k fun K hK => AW.region (by kernel_rfl) ?_
  simp -implicitDefEqProofs only [go_sem, ↓reduceIte, Nat.reduceEqDiff, Nat.reduceLT, Nat.reduceLeDiff, Nat.reduceAdd, Nat.reduceMul, Nat.reduceSub, Nat.reduceBEq, Int.reduceToNat, Int.reduceLT, Int.reduceLE, Int.reduceEq, Int.reduceNe, Int.reduceBEq, Int.reduceBNe, Int.reduceAdd, Int.reduceSub, Int.natCast_nonneg, Bool.false_eq_true, Bool.true_eq_false, eq_self]
  intro g4
  refine hK _ ?_
  clear hK K
  refine AW.seq_k fun K hK => AW.region (by kernel_rfl) ?_
  simp -implicitDefEqProofs only [go_sem, ↓reduceIte, Nat.reduceEqDiff, Nat.reduceLT, Nat.reduceLeDiff, Nat.reduceAdd, Nat.reduceMul, Nat.reduceSub, Nat.reduceBEq, Int.reduceToNat, Int.reduceLT, Int.reduceLE, Int.reduceEq, Int.reduceNe, Int.reduceBEq, Int.reduceBNe, Int.reduceAdd, Int.reduceSub, Int.natCast_nonneg, Bool.false_eq_true, Bool.true_eq_false, eq_self]
  refine hK _ ?_
  clear hK K
  refine AW.seq_k fun K1 hK1 => ?_
  refine AW.seq_k fun K hK => AW.region (by kernel_rfl) ?_
  simp -implicitDefEqProofs only [go_sem, ↓reduceIte, Nat.reduceEqDiff, Nat.reduceLT, Nat.reduceLeDiff, Nat.reduceAdd, Nat.reduceMul, Nat.reduceSub, Nat.reduceBEq, Int.reduceToNat, Int.reduceLT, Int.reduceLE, Int.reduceEq, Int.reduceNe, Int.reduceBEq, Int.reduceBNe, Int.reduceAdd, Int.reduceSub, Int.natCast_nonneg, Bool.false_eq_true, Bool.true_eq_false, eq_self]
  refine hK _ ?_
  clear hK K
  refine AW.block ?_
  refine AW.for a.l.length (fun k (x : (Nat × Nat) × List Pt) => st [(0, .int .u8 op), (1, encSl .any 3 (encPt .any) a), (4, .ptr 4 g4 0), (5, grown x.1.1 x.1.2 3 x.2), (6, .int .i64 k)]
      [(4, .cells .new g4 0 [.int .u8 0, .int .i64 0, .nils]), (x.1.1, grownO x.1.2 (encPt .any) x.2)])
    (fun k x => (x.1.1 = 26 ∨ x.1.1 = 39) ∧ x.2 = (a.l.take k).flatMap (Pt.putKids op)) 0 ((26, 0), []) (Nat.zero_le _) (by simp)
    (Weak.st (by simp -implicitDefEqProofs only [go_sem, ↓reduceIte, Nat.reduceEqDiff, Nat.reduceLT, Nat.reduceLeDiff, Nat.reduceAdd, Nat.reduceMul, Nat.reduceSub, Nat.reduceBEq, Int.reduceToNat, Int.reduceLT, Int.reduceLE, Int.reduceEq, Int.reduceNe, Int.reduceBEq, Int.reduceBNe, Int.reduceAdd, Int.reduceSub, Int.natCast_nonneg, Bool.false_eq_true, Bool.true_eq_false, eq_self]; simp [grown]) (by simp -implicitDefEqProofs only [go_sem, ↓reduceIte, Nat.reduceEqDiff, Nat.reduceLT, Nat.reduceLeDiff, Nat.reduceAdd, Nat.reduceMul, Nat.reduceSub, Nat.reduceBEq, Int.reduceToNat, Int.reduceLT, Int.reduceLE, Int.reduceEq, Int.reduceNe, Int.reduceBEq, Int.reduceBNe, Int.reduceAdd, Int.reduceSub, Int.natCast_nonneg, Bool.false_eq_true, Bool.true_eq_false, eq_self]; rfl)) ?_
  rintro k ⟨⟨o, gx⟩, l⟩ hk ⟨ho, hR⟩ L2 hL2
  have hne : ∀ {o : Nat}, o = 26 ∨ o = 39 → ((o = 4) = False ∧ (4 = o) = False ∧ (o = 38) = False) := by rintro o (rfl | rfl) <;> simp
  have ho4 := (hne ho).1
  have ho4' := (hne ho).2.1
  have ho38 := (hne ho).2.2
  refine AW.seq_k fun K3 hK3 => ?_
  refine AW.seq_k fun K hK => AW.region (by kernel_rfl) ?_
  simp -implicitDefEqProofs only [go_sem, ↓reduceIte, Nat.reduceEqDiff, Nat.reduceLT, Nat.reduceLeDiff, Nat.reduceAdd, Nat.reduceMul, Nat.reduceSub, Nat.reduceBEq, Int.reduceToNat, Int.reduceLT, Int.reduceLE, Int.reduceEq, Int.reduceNe, Int.reduceBEq, Int.reduceBNe, Int.reduceAdd, Int.reduceSub, Int.natCast_nonneg, Bool.false_eq_true, Bool.true_eq_false, eq_self]
  refine hK _ ?_
  clear hK K
  refine AW.condS (by simp -implicitDefEqProofs only [go_sem, ↓reduceIte, Nat.reduceEqDiff, Nat.reduceLT, Nat.reduceLeDiff, Nat.reduceAdd, Nat.reduceMul, Nat.reduceSub, Nat.reduceBEq, Int.reduceToNat, Int.reduceLT, Int.reduceLE, Int.reduceEq, Int.reduceNe, Int.reduceBEq, Int.reduceBNe, Int.reduceAdd, Int.reduceSub, Int.natCast_nonneg, Bool.false_eq_true, Bool.true_eq_false, eq_self]; rfl) (fun h4 => ?_) (fun h4 => ?_)
  · -- true
    refine AW.skip ?_
    simp -implicitDefEqProofs only [go_sem, ↓reduceIte, Nat.reduceEqDiff, Nat.reduceLT, Nat.reduceLeDiff, Nat.reduceAdd, Nat.reduceMul, Nat.reduceSub, Nat.reduceBEq, Int.reduceToNat, Int.reduceLT, Int.reduceLE, Int.reduceEq, Int.reduceNe, Int.reduceBEq, Int.reduceBNe, Int.reduceAdd, Int.reduceSub, Int.natCast_nonneg, Bool.false_eq_true, Bool.true_eq_false, eq_self]
    refine hK3 _ ?_
    have hk1 : k < a.l.length := by simpa using h4
    have hgi := List.getElem?_eq_getElem hk1
    have hR : l = (a.l.take k).flatMap (Pt.putKids op) := hR
    have hR' : l ++ Pt.putKids op a.l[k] = (a.l.take (k + 1)).flatMap (Pt.putKids op) := by
      rw [List.take_succ_eq_append_getElem hk1, List.flatMap_append, ← hR]
      simp
    have hlen : l.length + (Pt.putKids op a.l[k]).length < 1000000000 := by
      have h1 := congrArg List.length hR'
      have h2 : (a.l.take (k + 1)).flatMap (Pt.putKids op) ++ (a.l.drop (k + 1)).flatMap (Pt.putKids op) = a.l.flatMap (Pt.putKids op) := by
        rw [← List.flatMap_append, List.take_append_drop]
      have h3 := congrArg List.length h2
      simp only [List.length_append] at h1 h3
      omega
    refine AW.seqJ (fun (x : (Nat × Nat) × List Pt) => st [(0, .int .u8 op), (1, encSl .any 3 (encPt .any) a), (4, .ptr 4 g4 0), (5, grown x.1.1 x.1.2 3 x.2), (6, .int .i64 k)]
      [(4, .cells .new g4 0 [.int .u8 0, .int .i64 0, .nils]), (x.1.1, grownO x.1.2 (encPt .any) x.2)])
      (fun x => (x.1.1 = 26 ∨ x.1.1 = 39) ∧ x.2 = (a.l.take (k + 1)).flatMap (Pt.putKids op)) (fun K5 hK5 => ?_) ?_
    · refine AW.block ?_
      refine AW.seq_k fun K hK => AW.region (by kernel_rfl) ?_
      simp -implicitDefEqProofs only [go_sem, ↓reduceIte, Nat.reduceEqDiff, Nat.reduceLT, Nat.reduceLeDiff, Nat.reduceAdd, Nat.reduceMul, Nat.reduceSub, Nat.reduceBEq, Int.reduceToNat, Int.reduceLT, Int.reduceLE, Int.reduceEq, Int.reduceNe, Int.reduceBEq, Int.reduceBNe, Int.reduceAdd, Int.reduceSub, Int.natCast_nonneg, Bool.false_eq_true, Bool.true_eq_false, eq_self, hgi]
      refine hK _ ?_
      clear hK K
      refine AW.condS (by simp -implicitDefEqProofs only [go_sem, ↓reduceIte, Nat.reduceEqDiff, Nat.reduceLT, Nat.reduceLeDiff, Nat.reduceAdd, Nat.reduceMul, Nat.reduceSub, Nat.reduceBEq, Int.reduceToNat, Int.reduceLT, Int.reduceLE, Int.reduceEq, Int.reduceNe, Int.reduceBEq, Int.reduceBNe, Int.reduceAdd, Int.reduceSub, Int.natCast_nonneg, Bool.false_eq_true, Bool.true_eq_false, eq_self]; rfl) (fun h6 => ?_) (fun h6 => ?_)
      · -- true
        have h6' : (a.l[k]).op = op := by simpa using h6
        rw [Pt.putKids, if_pos h6'] at hR' hlen
        refine AW.region (by kernel_rfl) ?_
        simp -implicitDefEqProofs only [go_sem, ↓reduceIte, Nat.reduceEqDiff, Nat.reduceLT, Nat.reduceLeDiff, Nat.reduceAdd, Nat.reduceMul, Nat.reduceSub, Nat.reduceBEq, Int.reduceToNat, Int.reduceLT, Int.reduceLE, Int.reduceEq, Int.reduceNe, Int.reduceBEq, Int.reduceBNe, Int.reduceAdd, Int.reduceSub, Int.natCast_nonneg, Bool.false_eq_true, Bool.true_eq_false, eq_self, hgi]
        refine app_grown2 (f := encPt .any) (l := l) (l2 := (a.l[k]).ks.l) (o := o) (g := gx) (encPt_cells _) rfl rfl rfl (by simp -implicitDefEqProofs only [go_sem, ↓reduceIte, Nat.reduceEqDiff, Nat.reduceLT, Nat.reduceLeDiff, Nat.reduceAdd, Nat.reduceMul, Nat.reduceSub, Nat.reduceBEq, Int.reduceToNat, Int.reduceLT, Int.reduceLE, Int.reduceEq, Int.reduceNe, Int.reduceBEq, Int.reduceBNe, Int.reduceAdd, Int.reduceSub, Int.natCast_nonneg, Bool.false_eq_true, Bool.true_eq_false, eq_self, ho4]) (roomOk_of (by omega) (by omega)) fun o2 g2 ho2 => ?_
        simp -implicitDefEqProofs only [go_sem, ↓reduceIte, Nat.reduceEqDiff, Nat.reduceLT, Nat.reduceLeDiff, Nat.reduceAdd, Nat.reduceMul, Nat.reduceSub, Nat.reduceBEq, Int.reduceToNat, Int.reduceLT, Int.reduceLE, Int.reduceEq, Int.reduceNe, Int.reduceBEq, Int.reduceBNe, Int.reduceAdd, Int.reduceSub, Int.natCast_nonneg, Bool.false_eq_true, Bool.true_eq_false, eq_self]
        have ho2' : o2 = 26 ∨ o2 = 39 := by rcases ho2 with rfl | rfl; · { exact ho }; · exact .inl rfl
        refine hK5 _ ((o2, g2), l ++ (a.l[k]).ks.l) ⟨ho2', hR'⟩ (Weak.st (by simp -implicitDefEqProofs only [go_sem, ↓reduceIte, Nat.reduceEqDiff, Nat.reduceLT, Nat.reduceLeDiff, Nat.reduceAdd, Nat.reduceMul, Nat.reduceSub, Nat.reduceBEq, Int.reduceToNat, Int.reduceLT, Int.reduceLE, Int.reduceEq, Int.reduceNe, Int.reduceBEq, Int.reduceBNe, Int.reduceAdd, Int.reduceSub, Int.natCast_nonneg, Bool.false_eq_true, Bool.true_eq_false, eq_self]) (by simp -implicitDefEqProofs only [go_sem, ↓reduceIte, Nat.reduceEqDiff, Nat.reduceLT, Nat.reduceLeDiff, Nat.reduceAdd, Nat.reduceMul, Nat.reduceSub, Nat.reduceBEq, Int.reduceToNat, Int.reduceLT, Int.reduceLE, Int.reduceEq, Int.reduceNe, Int.reduceBEq, Int.reduceBNe, Int.reduceAdd, Int.reduceSub, Int.natCast_nonneg, Bool.false_eq_true, Bool.true_eq_false, eq_self, (hne ho2').2.1]))
      · -- false
        have h6' : ¬ (a.l[k]).op = op := by simpa using h6
        rw [Pt.putKids, if_neg h6'] at hR' hlen
        refine AW.seq_k fun K hK => AW.region (by kernel_rfl) ?_
        simp -implicitDefEqProofs only [go_sem, ↓reduceIte, Nat.reduceEqDiff, Nat.reduceLT, Nat.reduceLeDiff, Nat.reduceAdd, Nat.reduceMul, Nat.reduceSub, Nat.reduceBEq, Int.reduceToNat, Int.reduceLT, Int.reduceLE, Int.reduceEq, Int.reduceNe, Int.reduceBEq, Int.reduceBNe, Int.reduceAdd, Int.reduceSub, Int.natCast_nonneg, Bool.false_eq_true, Bool.true_eq_false, eq_self, hgi]
        refine hK _ ?_
        clear hK K
        refine AW.condS (by simp -implicitDefEqProofs only [go_sem, ↓reduceIte, Nat.reduceEqDiff, Nat.reduceLT, Nat.reduceLeDiff, Nat.reduceAdd, Nat.reduceMul, Nat.reduceSub, Nat.reduceBEq, Int.reduceToNat, Int.reduceLT, Int.reduceLE, Int.reduceEq, Int.reduceNe, Int.reduceBEq, Int.reduceBNe, Int.reduceAdd, Int.reduceSub, Int.natCast_nonneg, Bool.false_eq_true, Bool.true_eq_false, eq_self]; rfl) (fun h7 => ?_) (fun h7 => ?_)
        · -- true
          have h7' : ¬ (a.l[k]).op = 0 := by simpa using h7
          rw [if_neg h7'] at hR' hlen
          refine AW.region (by kernel_rfl) ?_
          simp -implicitDefEqProofs only [go_sem, ↓reduceIte, Nat.reduceEqDiff, Nat.reduceLT, Nat.reduceLeDiff, Nat.reduceAdd, Nat.reduceMul, Nat.reduceSub, Nat.reduceBEq, Int.reduceToNat, Int.reduceLT, Int.reduceLE, Int.reduceEq, Int.reduceNe, Int.reduceBEq, Int.reduceBNe, Int.reduceAdd, Int.reduceSub, Int.natCast_nonneg, Bool.false_eq_true, Bool.true_eq_false, eq_self, hgi]
          intro g38
          refine app_grown2 (f := encPt .any) (l := l) (l2 := [a.l[k]]) (o := o) (g := gx) (encPt_cells _) rfl (by simp only [List.map_cons, List.map_nil, flat, List.flatMap_cons, List.flatMap_nil, encPt_K]; rfl) rfl (by simp -implicitDefEqProofs only [go_sem, ↓reduceIte, Nat.reduceEqDiff, Nat.reduceLT, Nat.reduceLeDiff, Nat.reduceAdd, Nat.reduceMul, Nat.reduceSub, Nat.reduceBEq, Int.reduceToNat, Int.reduceLT, Int.reduceLE, Int.reduceEq, Int.reduceNe, Int.reduceBEq, Int.reduceBNe, Int.reduceAdd, Int.reduceSub, Int.natCast_nonneg, Bool.false_eq_true, Bool.true_eq_false, eq_self, ho4, ho38]) (roomOk_of (by omega) (by simpa using (by simp at hlen; omega))) fun o2 g2 ho2 => ?_
          simp -implicitDefEqProofs only [go_sem, ↓reduceIte, Nat.reduceEqDiff, Nat.reduceLT, Nat.reduceLeDiff, Nat.reduceAdd, Nat.reduceMul, Nat.reduceSub, Nat.reduceBEq, Int.reduceToNat, Int.reduceLT, Int.reduceLE, Int.reduceEq, Int.reduceNe, Int.reduceBEq, Int.reduceBNe, Int.reduceAdd, Int.reduceSub, Int.natCast_nonneg, Bool.false_eq_true, Bool.true_eq_false, eq_self]
          have ho2' : o2 = 26 ∨ o2 = 39 := by rcases ho2 with rfl | rfl; · { exact ho }; · exact .inr rfl
          refine hK5 _ ((o2, g2), l ++ [a.l[k]]) ⟨ho2', hR'⟩ (Weak.st (by simp -implicitDefEqProofs only [go_sem, ↓reduceIte, Nat.reduceEqDiff, Nat.reduceLT, Nat.reduceLeDiff, Nat.reduceAdd, Nat.reduceMul, Nat.reduceSub, Nat.reduceBEq, Int.reduceToNat, Int.reduceLT, Int.reduceLE, Int.reduceEq, Int.reduceNe, Int.reduceBEq, Int.reduceBNe, Int.reduceAdd, Int.reduceSub, Int.natCast_nonneg, Bool.false_eq_true, Bool.true_eq_false, eq_self]) (by simp -implicitDefEqProofs only [go_sem, ↓reduceIte, Nat.reduceEqDiff, Nat.reduceLT, Nat.reduceLeDiff, Nat.reduceAdd, Nat.reduceMul, Nat.reduceSub, Nat.reduceBEq, Int.reduceToNat, Int.reduceLT, Int.reduceLE, Int.reduceEq, Int.reduceNe, Int.reduceBEq, Int.reduceBNe, Int.reduceAdd, Int.reduceSub, Int.natCast_nonneg, Bool.false_eq_true, Bool.true_eq_false, eq_self, (hne ho2').2.1]))
        · -- false
          have h7' : (a.l[k]).op = 0 := by simpa using h7
          rw [if_pos h7', List.append_nil] at hR'
          refine AW.skip ?_
          simp -implicitDefEqProofs only [go_sem, ↓reduceIte, Nat.reduceEqDiff, Nat.reduceLT, Nat.reduceLeDiff, Nat.reduceAdd, Nat.reduceMul, Nat.reduceSub, Nat.reduceBEq, Int.reduceToNat, Int.reduceLT, Int.reduceLE, Int.reduceEq, Int.reduceNe, Int.reduceBEq, Int.reduceBNe, Int.reduceAdd, Int.reduceSub, Int.natCast_nonneg, Bool.false_eq_true, Bool.true_eq_false, eq_self]
          refine hK5 _ ((o, gx), l) ⟨ho, hR'⟩ (Weak.st (by simp -implicitDefEqProofs only [go_sem, ↓reduceIte, Nat.reduceEqDiff, Nat.reduceLT, Nat.reduceLeDiff, Nat.reduceAdd, Nat.reduceMul, Nat.reduceSub, Nat.reduceBEq, Int.reduceToNat, Int.reduceLT, Int.reduceLE, Int.reduceEq, Int.reduceNe, Int.reduceBEq, Int.reduceBNe, Int.reduceAdd, Int.reduceSub, Int.natCast_nonneg, Bool.false_eq_true, Bool.true_eq_false, eq_self]) (by simp -implicitDefEqProofs only [go_sem, ↓reduceIte, Nat.reduceEqDiff, Nat.reduceLT, Nat.reduceLeDiff, Nat.reduceAdd, Nat.reduceMul, Nat.reduceSub, Nat.reduceBEq, Int.reduceToNat, Int.reduceLT, Int.reduceLE, Int.reduceEq, Int.reduceNe, Int.reduceBEq, Int.reduceBNe, Int.reduceAdd, Int.reduceSub, Int.natCast_nonneg, Bool.false_eq_true, Bool.true_eq_false, eq_self, ho4, ho4']))
    · rintro ⟨⟨o2, g2⟩, m⟩ ⟨ho2, hRm⟩
      refine AW.region (by kernel_rfl) ?_
      simp -implicitDefEqProofs only [go_sem, ↓reduceIte, Nat.reduceEqDiff, Nat.reduceLT, Nat.reduceLeDiff, Nat.reduceAdd, Nat.reduceMul, Nat.reduceSub, Nat.reduceBEq, Int.reduceToNat, Int.reduceLT, Int.reduceLE, Int.reduceEq, Int.reduceNe, Int.reduceBEq, Int.reduceBNe, Int.reduceAdd, Int.reduceSub, Int.natCast_nonneg, Bool.false_eq_true, Bool.true_eq_false, eq_self]
      refine hL2 _ ⟨hk1, ((o2, g2), m), ⟨ho2, hRm⟩, Weak.st (by simp -implicitDefEqProofs only [go_sem, ↓reduceIte, Nat.reduceEqDiff, Nat.reduceLT, Nat.reduceLeDiff, Nat.reduceAdd, Nat.reduceMul, Nat.reduceSub, Nat.reduceBEq, Int.reduceToNat, Int.reduceLT, Int.reduceLE, Int.reduceEq, Int.reduceNe, Int.reduceBEq, Int.reduceBNe, Int.reduceAdd, Int.reduceSub, Int.natCast_nonneg, Bool.false_eq_true, Bool.true_eq_false, eq_self]; exact congrArg _ (w64 (by omega) (by omega))) (by simp -implicitDefEqProofs only [go_sem, ↓reduceIte, Nat.reduceEqDiff, Nat.reduceLT, Nat.reduceLeDiff, Nat.reduceAdd, Nat.reduceMul, Nat.reduceSub, Nat.reduceBEq, Int.reduceToNat, Int.reduceLT, Int.reduceLE, Int.reduceEq, Int.reduceNe, Int.reduceBEq, Int.reduceBNe, Int.reduceAdd, Int.reduceSub, Int.natCast_nonneg, Bool.false_eq_true, Bool.true_eq_false, eq_self, (hne ho2).1, (hne ho2).2.1])⟩
  · -- false
    refine AW.exit ?_
    simp -implicitDefEqProofs only [go_sem, ↓reduceIte, Nat.reduceEqDiff, Nat.reduceLT, Nat.reduceLeDiff, Nat.reduceAdd, Nat.reduceMul, Nat.reduceSub, Nat.reduceBEq, Int.reduceToNat, Int.reduceLT, Int.reduceLE, Int.reduceEq, Int.reduceNe, Int.reduceBEq, Int.reduceBNe, Int.reduceAdd, Int.reduceSub, Int.natCast_nonneg, Bool.false_eq_true, Bool.true_eq_false, eq_self]
    refine hK1 _ ?_
    have hk1 : k = a.l.length := by simp at h4; omega
    rw [hk1, List.take_length] at hR
    have hR : l = a.l.flatMap (Pt.putKids op) := hR
    rw [Pt.put, ← hR]
    refine AW.weak (Weak.stF (fun x => x == o) (l := [(0, .int .u8 op), (4, .ptr 4 g4 0), (5, encSl .new 3 (encPt .any) (grownS l))]) (m := [(4, .cells .new g4 0 [.int .u8 0, .int .i64 0, .nils])]) ?_ ?_) ?_
    · simp -implicitDefEqProofs only [go_sem, ↓reduceIte, Nat.reduceEqDiff, Nat.reduceLT, Nat.reduceLeDiff, Nat.reduceAdd, Nat.reduceMul, Nat.reduceSub, Nat.reduceBEq, Int.reduceToNat, Int.reduceLT, Int.reduceLE, Int.reduceEq, Int.reduceNe, Int.reduceBEq, Int.reduceBNe, Int.reduceAdd, Int.reduceSub, Int.natCast_nonneg, Bool.false_eq_true, Bool.true_eq_false, eq_self]
      exact ⟨Fz.same _, Fz.same _, Fz.grown (by simp) (by simp -implicitDefEqProofs only [go_sem, ↓reduceIte, Nat.reduceEqDiff, Nat.reduceLT, Nat.reduceLeDiff, Nat.reduceAdd, Nat.reduceMul, Nat.reduceSub, Nat.reduceBEq, Int.reduceToNat, Int.reduceLT, Int.reduceLE, Int.reduceEq, Int.reduceNe, Int.reduceBEq, Int.reduceBNe, Int.reduceAdd, Int.reduceSub, Int.natCast_nonneg, Bool.false_eq_true, Bool.true_eq_false, eq_self, ho4]) (encPt_cells _)⟩
    · simp only [allFzO_cons, allFzO_nil, and_true]
      exact FzO.keep (by simp; rcases ho with rfl | rfl <;> simp) (by simp -implicitDefEqProofs only [go_sem, ↓reduceIte, Nat.reduceEqDiff, Nat.reduceLT, Nat.reduceLeDiff, Nat.reduceAdd, Nat.reduceMul, Nat.reduceSub, Nat.reduceBEq, Int.reduceToNat, Int.reduceLT, Int.reduceLE, Int.reduceEq, Int.reduceNe, Int.reduceBEq, Int.reduceBNe, Int.reduceAdd, Int.reduceSub, Int.natCast_nonneg, Bool.false_eq_true, Bool.true_eq_false, eq_self, ho4'])
    refine AW.weak (Weak.stF (fun x => false) (l := [(0, .int .u8 op), (4, .ptr 4 g4 0), (5, encSl .any 3 (encPt .any) (grownS l))]) (m := [(4, .cells .new g4 0 [.int .u8 0, .int .i64 0, .nils])]) ?_ ?_) ?_
    · simp -implicitDefEqProofs only [go_sem, ↓reduceIte, Nat.reduceEqDiff, Nat.reduceLT, Nat.reduceLeDiff, Nat.reduceAdd, Nat.reduceMul, Nat.reduceSub, Nat.reduceBEq, Int.reduceToNat, Int.reduceLT, Int.reduceLE, Int.reduceEq, Int.reduceNe, Int.reduceBEq, Int.reduceBNe, Int.reduceAdd, Int.reduceSub, Int.natCast_nonneg, Bool.false_eq_true, Bool.true_eq_false, eq_self]
      exact ⟨Fz.same _, Fz.same _, Fz.any (by simp -implicitDefEqProofs only [go_sem, ↓reduceIte, Nat.reduceEqDiff, Nat.reduceLT, Nat.reduceLeDiff, Nat.reduceAdd, Nat.reduceMul, Nat.reduceSub, Nat.reduceBEq, Int.reduceToNat, Int.reduceLT, Int.reduceLE, Int.reduceEq, Int.reduceNe, Int.reduceBEq, Int.reduceBNe, Int.reduceAdd, Int.reduceSub, Int.natCast_nonneg, Bool.false_eq_true, Bool.true_eq_false, eq_self])⟩
    · simp only [allFzO_cons, allFzO_nil, and_true]
      exact FzO.keep rfl (by simp -implicitDefEqProofs only [go_sem, ↓reduceIte, Nat.reduceEqDiff, Nat.reduceLT, Nat.reduceLeDiff, Nat.reduceAdd, Nat.reduceMul, Nat.reduceSub, Nat.reduceBEq, Int.reduceToNat, Int.reduceLT, Int.reduceLE, Int.reduceEq, Int.reduceNe, Int.reduceBEq, Int.reduceBNe, Int.reduceAdd, Int.reduceSub, Int.natCast_nonneg, Bool.false_eq_true, Bool.true_eq_false, eq_self])
    refine AW.seq_k fun K8 hK8 => ?_
    refine AW.seq_k fun K hK => AW.region (by kernel_rfl) ?_
    simp -implicitDefEqProofs only [go_sem, ↓reduceIte, Nat.reduceEqDiff, Nat.reduceLT, Nat.reduceLeDiff, Nat.reduceAdd, Nat.reduceMul, Nat.reduceSub, Nat.reduceBEq, Int.reduceToNat, Int.reduceLT, Int.reduceLE, Int.reduceEq, Int.reduceNe, Int.reduceBEq, Int.reduceBNe, Int.reduceAdd, Int.reduceSub, Int.natCast_nonneg, Bool.false_eq_true, Bool.true_eq_false, eq_self]
    refine hK _ ?_
    clear hK K
    refine AW.condS (by simp -implicitDefEqProofs only [go_sem, ↓reduceIte, Nat.reduceEqDiff, Nat.reduceLT, Nat.reduceLeDiff, Nat.reduceAdd, Nat.reduceMul, Nat.reduceSub, Nat.reduceBEq, Int.reduceToNat, Int.reduceLT, Int.reduceLE, Int.reduceEq, Int.reduceNe, Int.reduceBEq, Int.reduceBNe, Int.reduceAdd, Int.reduceSub, Int.natCast_nonneg, Bool.false_eq_true, Bool.true_eq_false, eq_self]; rfl) (fun h9 => ?_) (fun h9 => ?_)
    · -- true
      refine AW.seq_k fun K hK => AW.region (by kernel_rfl) ?_
      simp -implicitDefEqProofs only [go_sem, ↓reduceIte, Nat.reduceEqDiff, Nat.reduceLT, Nat.reduceLeDiff, Nat.reduceAdd, Nat.reduceMul, Nat.reduceSub, Nat.reduceBEq, Int.reduceToNat, Int.reduceLT, Int.reduceLE, Int.reduceEq, Int.reduceNe, Int.reduceBEq, Int.reduceBNe, Int.reduceAdd, Int.reduceSub, Int.natCast_nonneg, Bool.false_eq_true, Bool.true_eq_false, eq_self]
      refine hK _ ?_
      clear hK K
      refine AW.ret ?_
      simp -implicitDefEqProofs only [go_sem, ↓reduceIte, Nat.reduceEqDiff, Nat.reduceLT, Nat.reduceLeDiff, Nat.reduceAdd, Nat.reduceMul, Nat.reduceSub, Nat.reduceBEq, Int.reduceToNat, Int.reduceLT, Int.reduceLE, Int.reduceEq, Int.reduceNe, Int.reduceBEq, Int.reduceBNe, Int.reduceAdd, Int.reduceSub, Int.natCast_nonneg, Bool.false_eq_true, Bool.true_eq_false, eq_self]
      refine endK_some ?_
      have : l = [] := by simpa [grownS_l] using h9
      subst this
      rfl
    · -- false
      refine AW.skip ?_
      simp -implicitDefEqProofs only [go_sem, ↓reduceIte, Nat.reduceEqDiff, Nat.reduceLT, Nat.reduceLeDiff, Nat.reduceAdd, Nat.reduceMul, Nat.reduceSub, Nat.reduceBEq, Int.reduceToNat, Int.reduceLT, Int.reduceLE, Int.reduceEq, Int.reduceNe, Int.reduceBEq, Int.reduceBNe, Int.reduceAdd, Int.reduceSub, Int.natCast_nonneg, Bool.false_eq_true, Bool.true_eq_false, eq_self]
      refine hK8 _ ?_
      refine AW.seq_k fun K10 hK10 => ?_
      refine AW.seq_k fun K hK => AW.region (by kernel_rfl) ?_
      simp -implicitDefEqProofs only [go_sem, ↓reduceIte, Nat.reduceEqDiff, Nat.reduceLT, Nat.reduceLeDiff, Nat.reduceAdd, Nat.reduceMul, Nat.reduceSub, Nat.reduceBEq, Int.reduceToNat, Int.reduceLT, Int.reduceLE, Int.reduceEq, Int.reduceNe, Int.reduceBEq, Int.reduceBNe, Int.reduceAdd, Int.reduceSub, Int.natCast_nonneg, Bool.false_eq_true, Bool.true_eq_false, eq_self]
      refine hK _ ?_
      clear hK K
      refine AW.condS (by simp -implicitDefEqProofs only [go_sem, ↓reduceIte, Nat.reduceEqDiff, Nat.reduceLT, Nat.reduceLeDiff, Nat.reduceAdd, Nat.reduceMul, Nat.reduceSub, Nat.reduceBEq, Int.reduceToNat, Int.reduceLT, Int.reduceLE, Int.reduceEq, Int.reduceNe, Int.reduceBEq, Int.reduceBNe, Int.reduceAdd, Int.reduceSub, Int.natCast_nonneg, Bool.false_eq_true, Bool.true_eq_false, eq_self]; rfl) (fun h11 => ?_) (fun h11 => ?_)
      · -- true
        obtain ⟨x, rfl⟩ : ∃ x, l = [x] := List.length_eq_one_iff.1 (by simp [grownS_l] at h11; omega)
        refine AW.seq_k fun K hK => AW.region (by kernel_rfl) ?_
        simp -implicitDefEqProofs only [go_sem, ↓reduceIte, Nat.reduceEqDiff, Nat.reduceLT, Nat.reduceLeDiff, Nat.reduceAdd, Nat.reduceMul, Nat.reduceSub, Nat.reduceBEq, Int.reduceToNat, Int.reduceLT, Int.reduceLE, Int.reduceEq, Int.reduceNe, Int.reduceBEq, Int.reduceBNe, Int.reduceAdd, Int.reduceSub, Int.natCast_nonneg, Bool.false_eq_true, Bool.true_eq_false, eq_self, grownS_l]
        refine hK _ ?_
        clear hK K
        refine AW.ret ?_
        simp -implicitDefEqProofs only [go_sem, ↓reduceIte, Nat.reduceEqDiff, Nat.reduceLT, Nat.reduceLeDiff, Nat.reduceAdd, Nat.reduceMul, Nat.reduceSub, Nat.reduceBEq, Int.reduceToNat, Int.reduceLT, Int.reduceLE, Int.reduceEq, Int.reduceNe, Int.reduceBEq, Int.reduceBNe, Int.reduceAdd, Int.reduceSub, Int.natCast_nonneg, Bool.false_eq_true, Bool.true_eq_false, eq_self]
        refine endK_some ?_
        rfl
      · -- false
        refine AW.skip ?_
        simp -implicitDefEqProofs only [go_sem, ↓reduceIte, Nat.reduceEqDiff, Nat.reduceLT, Nat.reduceLeDiff, Nat.reduceAdd, Nat.reduceMul, Nat.reduceSub, Nat.reduceBEq, Int.reduceToNat, Int.reduceLT, Int.reduceLE, Int.reduceEq, Int.reduceNe, Int.reduceBEq, Int.reduceBNe, Int.reduceAdd, Int.reduceSub, Int.natCast_nonneg, Bool.false_eq_true, Bool.true_eq_false, eq_self]
        refine hK10 _ ?_
        refine AW.seq_k fun K hK => AW.region (by kernel_rfl) ?_
        simp -implicitDefEqProofs only [go_sem, ↓reduceIte, Nat.reduceEqDiff, Nat.reduceLT, Nat.reduceLeDiff, Nat.reduceAdd, Nat.reduceMul, Nat.reduceSub, Nat.reduceBEq, Int.reduceToNat, Int.reduceLT, Int.reduceLE, Int.reduceEq, Int.reduceNe, Int.reduceBEq, Int.reduceBNe, Int.reduceAdd, Int.reduceSub, Int.natCast_nonneg, Bool.false_eq_true, Bool.true_eq_false, eq_self]
        refine hK _ ?_
        clear hK K
        refine AW.ret ?_
        simp -implicitDefEqProofs only [go_sem, ↓reduceIte, Nat.reduceEqDiff, Nat.reduceLT, Nat.reduceLeDiff, Nat.reduceAdd, Nat.reduceMul, Nat.reduceSub, Nat.reduceBEq, Int.reduceToNat, Int.reduceLT, Int.reduceLE, Int.reduceEq, Int.reduceNe, Int.reduceBEq, Int.reduceBNe, Int.reduceAdd, Int.reduceSub, Int.natCast_nonneg, Bool.false_eq_true, Bool.true_eq_false, eq_self]
        refine endK_some ?_
        rw [Pt.putOf_more op (by simpa [grownS_l] using h9) (by simp [grownS_l] at h11; omega), ← encPt_K, encPt_of]
end Go.Hs
end

section
namespace Go.Hs
open Go.Proofs
set_option maxRecDepth 10000

theorem Pt.takes_len (n : Nat) (t : Pt → Int → Pt) (b : Pt) : ∀ (l : List Pt) (leaf : Int), (Pt.takes n t b l leaf).length = l.length
  | [], _ => rfl
  | p :: r, leaf => by simp [Pt.takes, Pt.takes_len n t b r]

/-- What bounds the sizes within Take. -/
def takeOk : Nat → Pt → Int → Pt → Prop
  | 0, _, _, _ => False
  | n + 1, p, leaf, b => p.op ≥ 3 ∨ (p.v.full = true ∧ p.v.size < 1000000000 ∧ ((Pt.takes n (fun q l => Pt.take n q l b) b p.ks.l leaf).flatMap (Pt.putKids p.op)).length < 1000000000 ∧
      ∀ (k : Nat) (hk : k < p.ks.l.length), 0 ≤ leaf - ((p.ks.l.take k).map fun q => q.v.size).sum → leaf - ((p.ks.l.take k).map fun q => q.v.size).sum < p.ks.l[k].v.size →
        takeOk n p.ks.l[k] (leaf - ((p.ks.l.take k).map fun q => q.v.size).sum) b)

/- hopscotch/hopscotchref22.Take -/
theorem rTake_spec (G : Nat → V) (hG : GOk G) : ∀ (n : Nat) (p : Pt) (leaf : Int) (b : Pt), takeOk n p leaf b → 0 ≤ leaf → leaf < 1000000000 →
    Spec Try.prog G 12 [encPt .any p, .int .i64 leaf, encPt .any b] hNone (fun v _ => v = encPt .any (Pt.take n p leaf b)) := by
  intro n
  induction n with
  | zero => intro p leaf b h; exact h.elim
  | succ n ih =>
  intro p leaf b hok hl0 hl1
  refine Spec.of_code' 0 60 [ResultVar.cell 6 31] Try.func12 rfl rfl rfl rfl fun X => ?_
  refine AW.seq_k fun K hK => AW.region (by kernel_rfl) ?_
  simp -implicitDefEqProofs only [go_sem, ↓reduceIte, Nat.reduceEqDiff, Nat.reduceLT, Nat.reduceLeDiff, Nat.reduceAdd, Nat.reduceMul, Nat.reduceSub, Nat.reduceBEq, Int.reduceToNat, Int.reduceLT, Int.reduceLE, Int.reduceEq, Int.reduceNe, Int.reduceBEq, Int.reduceBNe, Int.reduceAdd, Int.reduceSub, Int.natCast_nonneg, Bool.false_eq_true, Bool.true_eq_false, eq_self]
  intro g3 g5 g6
  refine hK _ ?_
  clear hK K
  refine AW.seq_k fun K1 hK1 => ?_
  refine AW.seq_k fun K hK => AW.region (by kernel_rfl) ?_
  simp -implicitDefEqProofs only [go_sem, ↓reduceIte, Nat.reduceEqDiff, Nat.reduceLT, Nat.reduceLeDiff, Nat.reduceAdd, Nat.reduceMul, Nat.reduceSub, Nat.reduceBEq, Int.reduceToNat, Int.reduceLT, Int.reduceLE, Int.reduceEq, Int.reduceNe, Int.reduceBEq, Int.reduceBNe, Int.reduceAdd, Int.reduceSub, Int.natCast_nonneg, Bool.false_eq_true, Bool.true_eq_false, eq_self]
  refine hK _ ?_
  clear hK K
  refine AW.condS (by simp -implicitDefEqProofs only [go_sem, ↓reduceIte, Nat.reduceEqDiff, Nat.reduceLT, Nat.reduceLeDiff, Nat.reduceAdd, Nat.reduceMul, Nat.reduceSub, Nat.reduceBEq, Int.reduceToNat, Int.reduceLT, Int.reduceLE, Int.reduceEq, Int.reduceNe, Int.reduceBEq, Int.reduceBNe, Int.reduceAdd, Int.reduceSub, Int.natCast_nonneg, Bool.false_eq_true, Bool.true_eq_false, eq_self]; rfl) (fun h2 => ?_) (fun h2 => ?_)
  · -- true
    refine AW.seq_k fun K hK => AW.region (by kernel_rfl) ?_
    simp -implicitDefEqProofs only [go_sem, ↓reduceIte, Nat.reduceEqDiff, Nat.reduceLT, Nat.reduceLeDiff, Nat.reduceAdd, Nat.reduceMul, Nat.reduceSub, Nat.reduceBEq, Int.reduceToNat, Int.reduceLT, Int.reduceLE, Int.reduceEq, Int.reduceNe, Int.reduceBEq, Int.reduceBNe, Int.reduceAdd, Int.reduceSub, Int.natCast_nonneg, Bool.false_eq_true, Bool.true_eq_false, eq_self]
    refine hK _ ?_
    clear hK K
    refine AW.ret ?_
    simp -implicitDefEqProofs only [go_sem, ↓reduceIte, Nat.reduceEqDiff, Nat.reduceLT, Nat.reduceLeDiff, Nat.reduceAdd, Nat.reduceMul, Nat.reduceSub, Nat.reduceBEq, Int.reduceToNat, Int.reduceLT, Int.reduceLE, Int.reduceEq, Int.reduceNe, Int.reduceBEq, Int.reduceBNe, Int.reduceAdd, Int.reduceSub, Int.natCast_nonneg, Bool.false_eq_true, Bool.true_eq_false, eq_self]
    refine endK_some ?_
    have h2' : p.op ≥ 3 := by simpa using h2
    rw [Pt.take, if_pos h2']
  · -- false
    refine AW.skip ?_
    simp -implicitDefEqProofs only [go_sem, ↓reduceIte, Nat.reduceEqDiff, Nat.reduceLT, Nat.reduceLeDiff, Nat.reduceAdd, Nat.reduceMul, Nat.reduceSub, Nat.reduceBEq, Int.reduceToNat, Int.reduceLT, Int.reduceLE, Int.reduceEq, Int.reduceNe, Int.reduceBEq, Int.reduceBNe, Int.reduceAdd, Int.reduceSub, Int.natCast_nonneg, Bool.false_eq_true, Bool.true_eq_false, eq_self]
    refine hK1 _ ?_
    have h2' : ¬ p.op ≥ 3 := by simpa using h2
    obtain ⟨hf, hs, hfl, hkid⟩ := hok.resolve_left h2'
    have hkl := T.full_kids hf
    rw [Pt.kids_v, List.length_map] at hkl
    have hsz : p.v.size = 1 + (p.ks.l.map fun q => q.v.size).sum := by
      rw [T.size_K, if_neg ((T.full_K _).1 hf).1, Pt.kids_v, List.map_map]; rfl
    have hfk : ∀ q ∈ p.ks.l, q.v.full = true := fun q hq => ((T.full_K _).1 hf).2 _ (by rw [Pt.kids_v]; exact List.mem_map_of_mem hq)
    refine AW.seq_k fun K hK => AW.region (by kernel_rfl) ?_
    simp -implicitDefEqProofs only [go_sem, ↓reduceIte, Nat.reduceEqDiff, Nat.reduceLT, Nat.reduceLeDiff, Nat.reduceAdd, Nat.reduceMul, Nat.reduceSub, Nat.reduceBEq, Int.reduceToNat, Int.reduceLT, Int.reduceLE, Int.reduceEq, Int.reduceNe, Int.reduceBEq, Int.reduceBNe, Int.reduceAdd, Int.reduceSub, Int.natCast_nonneg, Bool.false_eq_true, Bool.true_eq_false, eq_self]
    refine hK _ ?_
    clear hK K
    refine AW.seq_k fun K3 hK3 => ?_
    refine AW.seq_k fun K hK => AW.region (by kernel_rfl) ?_
    simp -implicitDefEqProofs only [go_sem, ↓reduceIte, Nat.reduceEqDiff, Nat.reduceLT, Nat.reduceLeDiff, Nat.reduceAdd, Nat.reduceMul, Nat.reduceSub, Nat.reduceBEq, Int.reduceToNat, Int.reduceLT, Int.reduceLE, Int.reduceEq, Int.reduceNe, Int.reduceBEq, Int.reduceBNe, Int.reduceAdd, Int.reduceSub, Int.natCast_nonneg, Bool.false_eq_true, Bool.true_eq_false, eq_self]
    refine hK _ ?_
    clear hK K
    refine AW.block ?_
    refine AW.for p.ks.l.length (fun k (x : (Nat × Nat) × List Pt) => st [(1, .int .i64 (leaf - ((p.ks.l.take k).map fun q => q.v.size).sum)), (3, .ptr 3 g3 0), (5, .ptr 5 g5 0), (6, .ptr 6 g6 0), (7, grown x.1.1 x.1.2 3 x.2), (8, .int .i64 k)]
        [(3, .cells .new g3 0 [.int .u8 p.op, .int .i64 p.pl, encSl .any 3 (encPt .any) p.ks]), (5, .cells .new g5 0 [.int .u8 b.op, .int .i64 b.pl, encSl .any 3 (encPt .any) b.ks]), (6, .cells .new g6 0 [.int .u8 0, .int .i64 0, .nils]), (x.1.1, grownO x.1.2 (encPt .any) x.2)])
      (fun k x => (x.1.1 = 44 ∨ x.1.1 = 52) ∧ x.2 ++ Pt.takes n (fun q l => Pt.take n q l b) b (p.ks.l.drop k) (leaf - ((p.ks.l.take k).map fun q => q.v.size).sum) = Pt.takes n (fun q l => Pt.take n q l b) b p.ks.l leaf) 0 ((44, 0), []) (Nat.zero_le _) (by simp)
      (Weak.st (by simp -implicitDefEqProofs only [go_sem, ↓reduceIte, Nat.reduceEqDiff, Nat.reduceLT, Nat.reduceLeDiff, Nat.reduceAdd, Nat.reduceMul, Nat.reduceSub, Nat.reduceBEq, Int.reduceToNat, Int.reduceLT, Int.reduceLE, Int.reduceEq, Int.reduceNe, Int.reduceBEq, Int.reduceBNe, Int.reduceAdd, Int.reduceSub, Int.natCast_nonneg, Bool.false_eq_true, Bool.true_eq_false, eq_self] <;> simp [grown]) (by simp -implicitDefEqProofs only [go_sem, ↓reduceIte, Nat.reduceEqDiff, Nat.reduceLT, Nat.reduceLeDiff, Nat.reduceAdd, Nat.reduceMul, Nat.reduceSub, Nat.reduceBEq, Int.reduceToNat, Int.reduceLT, Int.reduceLE, Int.reduceEq, Int.reduceNe, Int.reduceBEq, Int.reduceBNe, Int.reduceAdd, Int.reduceSub, Int.natCast_nonneg, Bool.false_eq_true, Bool.true_eq_false, eq_self] <;> rfl)) ?_
    rintro k ⟨⟨o, gx⟩, l⟩ hk ⟨ho, hR⟩ L4 hL4
    have hne : ∀ {o : Nat}, o = 44 ∨ o = 52 → ((o = 3) = False ∧ (3 = o) = False ∧ (o = 5) = False ∧ (5 = o) = False ∧ (o = 6) = False ∧ (6 = o) = False ∧ (o = 43) = False ∧ (o = 51) = False ∧ (43 = o) = False ∧ (51 = o) = False) := by rintro o (rfl | rfl) <;> simp
    obtain ⟨ne1, ne2, ne3, ne4, ne5, ne6, ne7, ne8, ne9, ne10⟩ := hne ho
    refine AW.seq_k fun K5 hK5 => ?_
    refine AW.seq_k fun K hK => AW.region (by kernel_rfl) ?_
    simp -implicitDefEqProofs only [go_sem, ↓reduceIte, Nat.reduceEqDiff, Nat.reduceLT, Nat.reduceLeDiff, Nat.reduceAdd, Nat.reduceMul, Nat.reduceSub, Nat.reduceBEq, Int.reduceToNat, Int.reduceLT, Int.reduceLE, Int.reduceEq, Int.reduceNe, Int.reduceBEq, Int.reduceBNe, Int.reduceAdd, Int.reduceSub, Int.natCast_nonneg, Bool.false_eq_true, Bool.true_eq_false, eq_self, ne1, ne2, ne3, ne4, ne5, ne6]
    refine hK _ ?_
    clear hK K
    refine AW.condS (by simp -implicitDefEqProofs only [go_sem, ↓reduceIte, Nat.reduceEqDiff, Nat.reduceLT, Nat.reduceLeDiff, Nat.reduceAdd, Nat.reduceMul, Nat.reduceSub, Nat.reduceBEq, Int.reduceToNat, Int.reduceLT, Int.reduceLE, Int.reduceEq, Int.reduceNe, Int.reduceBEq, Int.reduceBNe, Int.reduceAdd, Int.reduceSub, Int.natCast_nonneg, Bool.false_eq_true, Bool.true_eq_false, eq_self]; rfl) (fun h6 => ?_) (fun h6 => ?_)
    · -- true
      refine AW.skip ?_
      simp -implicitDefEqProofs only [go_sem, ↓reduceIte, Nat.reduceEqDiff, Nat.reduceLT, Nat.reduceLeDiff, Nat.reduceAdd, Nat.reduceMul, Nat.reduceSub, Nat.reduceBEq, Int.reduceToNat, Int.reduceLT, Int.reduceLE, Int.reduceEq, Int.reduceNe, Int.reduceBEq, Int.reduceBNe, Int.reduceAdd, Int.reduceSub, Int.natCast_nonneg, Bool.false_eq_true, Bool.true_eq_false, eq_self]
      refine hK5 _ ?_
      have hk1 : k < p.ks.l.length := by simpa using h6
      have hgi := List.getElem?_eq_getElem hk1
      have hq := List.getElem_mem hk1
      have htk := sum_take_le (p.ks.l.map fun q => q.v.size) (k + 1)
      rw [← List.map_take, List.take_succ_eq_append_getElem hk1, List.map_append, List.sum_append] at htk
      simp only [List.map_cons, List.map_nil, List.sum_cons, List.sum_nil, Nat.add_zero] at htk
      refine AW.seq_k fun K7 hK7 => ?_
      refine AW.block ?_
      refine AW.seq_k fun K hK => AW.region (by kernel_rfl) ?_
      simp -implicitDefEqProofs only [go_sem, ↓reduceIte, Nat.reduceEqDiff, Nat.reduceLT, Nat.reduceLeDiff, Nat.reduceAdd, Nat.reduceMul, Nat.reduceSub, Nat.reduceBEq, Int.reduceToNat, Int.reduceLT, Int.reduceLE, Int.reduceEq, Int.reduceNe, Int.reduceBEq, Int.reduceBNe, Int.reduceAdd, Int.reduceSub, Int.natCast_nonneg, Bool.false_eq_true, Bool.true_eq_false, eq_self, hgi, ne1, ne2, ne3, ne4, ne5, ne6]
      refine CallA.pure hG (by kernel_rfl) ?_
      simp -implicitDefEqProofs only [go_sem, ↓reduceIte, Nat.reduceEqDiff, Nat.reduceLT, Nat.reduceLeDiff, Nat.reduceAdd, Nat.reduceMul, Nat.reduceSub, Nat.reduceBEq, Int.reduceToNat, Int.reduceLT, Int.reduceLE, Int.reduceEq, Int.reduceNe, Int.reduceBEq, Int.reduceBNe, Int.reduceAdd, Int.reduceSub, Int.natCast_nonneg, Bool.false_eq_true, Bool.true_eq_false, eq_self]
      have hih := size_spec G hG (p.dep + 1) .any p.ks.l[k] (by have := Pt.dep_kid hq; omega) (by omega) (.inr (hfk _ hq))
      rw [encPt_K] at hih
      refine hih.mono ?_
      rintro _ _ rfl
      simp -implicitDefEqProofs only [go_sem, ↓reduceIte, Nat.reduceEqDiff, Nat.reduceLT, Nat.reduceLeDiff, Nat.reduceAdd, Nat.reduceMul, Nat.reduceSub, Nat.reduceBEq, Int.reduceToNat, Int.reduceLT, Int.reduceLE, Int.reduceEq, Int.reduceNe, Int.reduceBEq, Int.reduceBNe, Int.reduceAdd, Int.reduceSub, Int.natCast_nonneg, Bool.false_eq_true, Bool.true_eq_false, eq_self]
      refine hK _ ?_
      clear hK K
      generalize hlk : leaf - ((p.ks.l.take k).map fun q => q.v.size).sum = lk at hR
      have hlk1 : -1000000000 < lk ∧ lk < 1000000000 := by omega
      have hnext : leaf - ((p.ks.l.take (k + 1)).map fun q => q.v.size).sum = lk - p.ks.l[k].v.size := by
        rw [List.take_succ_eq_append_getElem hk1, List.map_append, List.sum_append, ← hlk]; simp; omega
      have hR' : l ++ (if 0 ≤ lk ∧ lk < p.ks.l[k].v.size then Pt.take n p.ks.l[k] lk b else p.ks.l[k]) :: Pt.takes n (fun q l => Pt.take n q l b) b (p.ks.l.drop (k + 1)) (lk - p.ks.l[k].v.size) =
          Pt.takes n (fun q l => Pt.take n q l b) b p.ks.l leaf := by
        rw [← hR, List.drop_eq_getElem_cons hk1, Pt.takes]
      have hll : l.length < 1000000000 := by
        have h1 := congrArg List.length hR'
        rw [Pt.takes_len] at h1
        simp at h1
        omega
      refine AW.seqJ (fun (x : (Nat × Nat) × List Pt) => st [(1, .int .i64 lk), (3, .ptr 3 g3 0), (5, .ptr 5 g5 0), (6, .ptr 6 g6 0), (7, grown x.1.1 x.1.2 3 x.2), (8, .int .i64 k), (9, .int .i64 p.ks.l[k].v.size)]
        [(3, .cells .new g3 0 [.int .u8 p.op, .int .i64 p.pl, encSl .any 3 (encPt .any) p.ks]), (5, .cells .new g5 0 [.int .u8 b.op, .int .i64 b.pl, encSl .any 3 (encPt .any) b.ks]), (6, .cells .new g6 0 [.int .u8 0, .int .i64 0, .nils]), (x.1.1, grownO x.1.2 (encPt .any) x.2)])
        (fun x => (x.1.1 = 44 ∨ x.1.1 = 52) ∧ x.2 ++ Pt.takes n (fun q l => Pt.take n q l b) b (p.ks.l.drop (k + 1)) (lk - p.ks.l[k].v.size) = Pt.takes n (fun q l => Pt.take n q l b) b p.ks.l leaf) (fun K8 hK8 => ?_) ?_
      · by_cases hin : 0 ≤ lk ∧ lk < p.ks.l[k].v.size
        · rw [if_pos hin] at hR'
          refine AW.seq_k fun K hK => AW.region (by kernel_rfl) ?_
          simp -implicitDefEqProofs only [go_sem, ↓reduceIte, Nat.reduceEqDiff, Nat.reduceLT, Nat.reduceLeDiff, Nat.reduceAdd, Nat.reduceMul, Nat.reduceSub, Nat.reduceBEq, Int.reduceToNat, Int.reduceLT, Int.reduceLE, Int.reduceEq, Int.reduceNe, Int.reduceBEq, Int.reduceBNe, Int.reduceAdd, Int.reduceSub, Int.natCast_nonneg, Bool.false_eq_true, Bool.true_eq_false, eq_self, decide_eq_true (show lk ≥ 0 from hin.1), decide_eq_true hin.2]
          refine hK _ ?_
          clear hK K
          refine AW.condS (by simp -implicitDefEqProofs only [go_sem, ↓reduceIte, Nat.reduceEqDiff, Nat.reduceLT, Nat.reduceLeDiff, Nat.reduceAdd, Nat.reduceMul, Nat.reduceSub, Nat.reduceBEq, Int.reduceToNat, Int.reduceLT, Int.reduceLE, Int.reduceEq, Int.reduceNe, Int.reduceBEq, Int.reduceBNe, Int.reduceAdd, Int.reduceSub, Int.natCast_nonneg, Bool.false_eq_true, Bool.true_eq_false, eq_self]; rfl) (fun h9 => ?_) (fun h9 => ?_)
          · refine AW.regionT ⟨fun i => if i = 8 then encPt .any (Pt.take n p.ks.l[k] lk b) else .top, fun _ => .pure⟩ (by kernel_rfl) hG (by kernel_rfl) (by kernel_rfl) ?_
            simp -implicitDefEqProofs only [go_sem, ↓reduceIte, Nat.reduceEqDiff, Nat.reduceLT, Nat.reduceLeDiff, Nat.reduceAdd, Nat.reduceMul, Nat.reduceSub, Nat.reduceBEq, Int.reduceToNat, Int.reduceLT, Int.reduceLE, Int.reduceEq, Int.reduceNe, Int.reduceBEq, Int.reduceBNe, Int.reduceAdd, Int.reduceSub, Int.natCast_nonneg, Bool.false_eq_true, Bool.true_eq_false, eq_self, hgi, ne1, ne2, ne3, ne4, ne5, ne6]
            have hih := ih p.ks.l[k] lk b (hlk ▸ hkid k hk1 (hlk ▸ hin.1) (hlk ▸ hin.2)) hin.1 (by omega)
            simp only [encPt_K] at hih
            refine ⟨⟨by kernel_rfl, ?_⟩, by simp -implicitDefEqProofs only [go_sem, ↓reduceIte, Nat.reduceEqDiff, Nat.reduceLT, Nat.reduceLeDiff, Nat.reduceAdd, Nat.reduceMul, Nat.reduceSub, Nat.reduceBEq, Int.reduceToNat, Int.reduceLT, Int.reduceLE, Int.reduceEq, Int.reduceNe, Int.reduceBEq, Int.reduceBNe, Int.reduceAdd, Int.reduceSub, Int.natCast_nonneg, Bool.false_eq_true, Bool.true_eq_false, eq_self, ne9], fun g43 => ?_⟩
            · simp -implicitDefEqProofs only [go_sem, ↓reduceIte, Nat.reduceEqDiff, Nat.reduceLT, Nat.reduceLeDiff, Nat.reduceAdd, Nat.reduceMul, Nat.reduceSub, Nat.reduceBEq, Int.reduceToNat, Int.reduceLT, Int.reduceLE, Int.reduceEq, Int.reduceNe, Int.reduceBEq, Int.reduceBNe, Int.reduceAdd, Int.reduceSub, Int.natCast_nonneg, Bool.false_eq_true, Bool.true_eq_false, eq_self]
              refine hih.mono ?_
              rintro _ _ rfl
              simp -implicitDefEqProofs only [go_sem, ↓reduceIte, Nat.reduceEqDiff, Nat.reduceLT, Nat.reduceLeDiff, Nat.reduceAdd, Nat.reduceMul, Nat.reduceSub, Nat.reduceBEq, Int.reduceToNat, Int.reduceLT, Int.reduceLE, Int.reduceEq, Int.reduceNe, Int.reduceBEq, Int.reduceBNe, Int.reduceAdd, Int.reduceSub, Int.natCast_nonneg, Bool.false_eq_true, Bool.true_eq_false, eq_self]
            refine app_grown2 (f := encPt .any) (l := l) (l2 := [Pt.take n p.ks.l[k] lk b]) (o := o) (g := gx) (encPt_cells _) rfl (by simp only [List.map_cons, List.map_nil, flat, List.flatMap_cons, List.flatMap_nil, encPt_K]; rfl) rfl (by simp -implicitDefEqProofs only [go_sem, ↓reduceIte, Nat.reduceEqDiff, Nat.reduceLT, Nat.reduceLeDiff, Nat.reduceAdd, Nat.reduceMul, Nat.reduceSub, Nat.reduceBEq, Int.reduceToNat, Int.reduceLT, Int.reduceLE, Int.reduceEq, Int.reduceNe, Int.reduceBEq, Int.reduceBNe, Int.reduceAdd, Int.reduceSub, Int.natCast_nonneg, Bool.false_eq_true, Bool.true_eq_false, eq_self, ne1, ne3, ne5, ne7]) (roomOk_of (by omega) (by simp; omega)) fun o2 g2 ho2 => ?_
            have ho2' : o2 = 44 ∨ o2 = 52 := by rcases ho2 with rfl | rfl; · { exact ho }; · exact .inl rfl
            obtain ⟨me1, me2, me3, me4, me5, me6, me7, me8, me9, me10⟩ := hne ho2'
            simp -implicitDefEqProofs only [go_sem, ↓reduceIte, Nat.reduceEqDiff, Nat.reduceLT, Nat.reduceLeDiff, Nat.reduceAdd, Nat.reduceMul, Nat.reduceSub, Nat.reduceBEq, Int.reduceToNat, Int.reduceLT, Int.reduceLE, Int.reduceEq, Int.reduceNe, Int.reduceBEq, Int.reduceBNe, Int.reduceAdd, Int.reduceSub, Int.natCast_nonneg, Bool.false_eq_true, Bool.true_eq_false, eq_self, me1, me2, me3, me4, me5, me6, me7, me8, me9, me10]
            refine hK8 _ ((o2, g2), l ++ [Pt.take n p.ks.l[k] lk b]) ⟨ho2', by rw [← hR']; simp⟩ (Weak.st (by simp -implicitDefEqProofs only [go_sem, ↓reduceIte, Nat.reduceEqDiff, Nat.reduceLT, Nat.reduceLeDiff, Nat.reduceAdd, Nat.reduceMul, Nat.reduceSub, Nat.reduceBEq, Int.reduceToNat, Int.reduceLT, Int.reduceLE, Int.reduceEq, Int.reduceNe, Int.reduceBEq, Int.reduceBNe, Int.reduceAdd, Int.reduceSub, Int.natCast_nonneg, Bool.false_eq_true, Bool.true_eq_false, eq_self]) (by simp -implicitDefEqProofs only [go_sem, ↓reduceIte, Nat.reduceEqDiff, Nat.reduceLT, Nat.reduceLeDiff, Nat.reduceAdd, Nat.reduceMul, Nat.reduceSub, Nat.reduceBEq, Int.reduceToNat, Int.reduceLT, Int.reduceLE, Int.reduceEq, Int.reduceNe, Int.reduceBEq, Int.reduceBNe, Int.reduceAdd, Int.reduceSub, Int.natCast_nonneg, Bool.false_eq_true, Bool.true_eq_false, eq_self, me1, me2, me3, me4, me5, me6, me7, me8, me9, me10]))
          · simp at h9
        · rw [if_neg hin] at hR'
          have hrest : ∀ τ' : Nat → V, τ' 33 = .bool false → τ' 1 = .int .i64 lk → τ' 3 = .ptr 3 g3 0 → τ' 5 = .ptr 5 g5 0 → τ' 6 = .ptr 6 g6 0 → τ' 7 = grown o gx 3 l → τ' 8 = .int .i64 k → τ' 9 = .int .i64 p.ks.l[k].v.size → True := fun _ _ _ _ _ _ _ _ _ => trivial
          have hfalse : (lk ≥ 0 ∧ ¬ lk < p.ks.l[k].v.size) ∨ ¬ lk ≥ 0 := by omega
          rcases hfalse with ⟨hp1, hp2⟩ | hp1
          · refine AW.seq_k fun K hK => AW.region (by kernel_rfl) ?_
            simp -implicitDefEqProofs only [go_sem, ↓reduceIte, Nat.reduceEqDiff, Nat.reduceLT, Nat.reduceLeDiff, Nat.reduceAdd, Nat.reduceMul, Nat.reduceSub, Nat.reduceBEq, Int.reduceToNat, Int.reduceLT, Int.reduceLE, Int.reduceEq, Int.reduceNe, Int.reduceBEq, Int.reduceBNe, Int.reduceAdd, Int.reduceSub, Int.natCast_nonneg, Bool.false_eq_true, Bool.true_eq_false, eq_self, decide_eq_true hp1, decide_eq_false hp2]
            refine hK _ ?_
            clear hK K
            refine AW.condS (by simp -implicitDefEqProofs only [go_sem, ↓reduceIte, Nat.reduceEqDiff, Nat.reduceLT, Nat.reduceLeDiff, Nat.reduceAdd, Nat.reduceMul, Nat.reduceSub, Nat.reduceBEq, Int.reduceToNat, Int.reduceLT, Int.reduceLE, Int.reduceEq, Int.reduceNe, Int.reduceBEq, Int.reduceBNe, Int.reduceAdd, Int.reduceSub, Int.natCast_nonneg, Bool.false_eq_true, Bool.true_eq_false, eq_self]; rfl) (fun h9 => ?_) (fun h9 => ?_)
            · simp at h9
            · refine AW.region (by kernel_rfl) ?_
              simp -implicitDefEqProofs only [go_sem, ↓reduceIte, Nat.reduceEqDiff, Nat.reduceLT, Nat.reduceLeDiff, Nat.reduceAdd, Nat.reduceMul, Nat.reduceSub, Nat.reduceBEq, Int.reduceToNat, Int.reduceLT, Int.reduceLE, Int.reduceEq, Int.reduceNe, Int.reduceBEq, Int.reduceBNe, Int.reduceAdd, Int.reduceSub, Int.natCast_nonneg, Bool.false_eq_true, Bool.true_eq_false, eq_self, hgi, ne1, ne2, ne3, ne4, ne5, ne6]
              intro g51
              refine app_grown2 (f := encPt .any) (l := l) (l2 := [p.ks.l[k]]) (o := o) (g := gx) (encPt_cells _) rfl (by simp only [List.map_cons, List.map_nil, flat, List.flatMap_cons, List.flatMap_nil, encPt_K]; rfl) rfl (by simp -implicitDefEqProofs only [go_sem, ↓reduceIte, Nat.reduceEqDiff, Nat.reduceLT, Nat.reduceLeDiff, Nat.reduceAdd, Nat.reduceMul, Nat.reduceSub, Nat.reduceBEq, Int.reduceToNat, Int.reduceLT, Int.reduceLE, Int.reduceEq, Int.reduceNe, Int.reduceBEq, Int.reduceBNe, Int.reduceAdd, Int.reduceSub, Int.natCast_nonneg, Bool.false_eq_true, Bool.true_eq_false, eq_self, ne1, ne3, ne5, ne8]) (roomOk_of (by omega) (by simp; omega)) fun o2 g2 ho2 => ?_
              have ho2' : o2 = 44 ∨ o2 = 52 := by rcases ho2 with rfl | rfl; · { exact ho }; · exact .inr rfl
              obtain ⟨me1, me2, me3, me4, me5, me6, me7, me8, me9, me10⟩ := hne ho2'
              simp -implicitDefEqProofs only [go_sem, ↓reduceIte, Nat.reduceEqDiff, Nat.reduceLT, Nat.reduceLeDiff, Nat.reduceAdd, Nat.reduceMul, Nat.reduceSub, Nat.reduceBEq, Int.reduceToNat, Int.reduceLT, Int.reduceLE, Int.reduceEq, Int.reduceNe, Int.reduceBEq, Int.reduceBNe, Int.reduceAdd, Int.reduceSub, Int.natCast_nonneg, Bool.false_eq_true, Bool.true_eq_false, eq_self, me1, me2, me3, me4, me5, me6, me7, me8, me9, me10]
              refine hK8 _ ((o2, g2), l ++ [p.ks.l[k]]) ⟨ho2', by rw [← hR']; simp⟩ (Weak.st (by simp -implicitDefEqProofs only [go_sem, ↓reduceIte, Nat.reduceEqDiff, Nat.reduceLT, Nat.reduceLeDiff, Nat.reduceAdd, Nat.reduceMul, Nat.reduceSub, Nat.reduceBEq, Int.reduceToNat, Int.reduceLT, Int.reduceLE, Int.reduceEq, Int.reduceNe, Int.reduceBEq, Int.reduceBNe, Int.reduceAdd, Int.reduceSub, Int.natCast_nonneg, Bool.false_eq_true, Bool.true_eq_false, eq_self]) (by simp -implicitDefEqProofs only [go_sem, ↓reduceIte, Nat.reduceEqDiff, Nat.reduceLT, Nat.reduceLeDiff, Nat.reduceAdd, Nat.reduceMul, Nat.reduceSub, Nat.reduceBEq, Int.reduceToNat, Int.reduceLT, Int.reduceLE, Int.reduceEq, Int.reduceNe, Int.reduceBEq, Int.reduceBNe, Int.reduceAdd, Int.reduceSub, Int.natCast_nonneg, Bool.false_eq_true, Bool.true_eq_false, eq_self, me1, me2, me3, me4, me5, me6, me7, me8, me9, me10]))
          · refine AW.seq_k fun K hK => AW.region (by kernel_rfl) ?_
            simp -implicitDefEqProofs only [go_sem, ↓reduceIte, Nat.reduceEqDiff, Nat.reduceLT, Nat.reduceLeDiff, Nat.reduceAdd, Nat.reduceMul, Nat.reduceSub, Nat.reduceBEq, Int.reduceToNat, Int.reduceLT, Int.reduceLE, Int.reduceEq, Int.reduceNe, Int.reduceBEq, Int.reduceBNe, Int.reduceAdd, Int.reduceSub, Int.natCast_nonneg, Bool.false_eq_true, Bool.true_eq_false, eq_self, decide_eq_false hp1]
            refine hK _ ?_
            clear hK K
            refine AW.condS (by simp -implicitDefEqProofs only [go_sem, ↓reduceIte, Nat.reduceEqDiff, Nat.reduceLT, Nat.reduceLeDiff, Nat.reduceAdd, Nat.reduceMul, Nat.reduceSub, Nat.reduceBEq, Int.reduceToNat, Int.reduceLT, Int.reduceLE, Int.reduceEq, Int.reduceNe, Int.reduceBEq, Int.reduceBNe, Int.reduceAdd, Int.reduceSub, Int.natCast_nonneg, Bool.false_eq_true, Bool.true_eq_false, eq_self]; rfl) (fun h9 => ?_) (fun h9 => ?_)
            · simp at h9
            · refine AW.region (by kernel_rfl) ?_
              simp -implicitDefEqProofs only [go_sem, ↓reduceIte, Nat.reduceEqDiff, Nat.reduceLT, Nat.reduceLeDiff, Nat.reduceAdd, Nat.reduceMul, Nat.reduceSub, Nat.reduceBEq, Int.reduceToNat, Int.reduceLT, Int.reduceLE, Int.reduceEq, Int.reduceNe, Int.reduceBEq, Int.reduceBNe, Int.reduceAdd, Int.reduceSub, Int.natCast_nonneg, Bool.false_eq_true, Bool.true_eq_false, eq_self, hgi, ne1, ne2, ne3, ne4, ne5, ne6]
              intro g51
              refine app_grown2 (f := encPt .any) (l := l) (l2 := [p.ks.l[k]]) (o := o) (g := gx) (encPt_cells _) rfl (by simp only [List.map_cons, List.map_nil, flat, List.flatMap_cons, List.flatMap_nil, encPt_K]; rfl) rfl (by simp -implicitDefEqProofs only [go_sem, ↓reduceIte, Nat.reduceEqDiff, Nat.reduceLT, Nat.reduceLeDiff, Nat.reduceAdd, Nat.reduceMul, Nat.reduceSub, Nat.reduceBEq, Int.reduceToNat, Int.reduceLT, Int.reduceLE, Int.reduceEq, Int.reduceNe, Int.reduceBEq, Int.reduceBNe, Int.reduceAdd, Int.reduceSub, Int.natCast_nonneg, Bool.false_eq_true, Bool.true_eq_false, eq_self, ne1, ne3, ne5, ne8]) (roomOk_of (by omega) (by simp; omega)) fun o2 g2 ho2 => ?_
              have ho2' : o2 = 44 ∨ o2 = 52 := by rcases ho2 with rfl | rfl; · { exact ho }; · exact .inr rfl
              obtain ⟨me1, me2, me3, me4, me5, me6, me7, me8, me9, me10⟩ := hne ho2'
              simp -implicitDefEqProofs only [go_sem, ↓reduceIte, Nat.reduceEqDiff, Nat.reduceLT, Nat.reduceLeDiff, Nat.reduceAdd, Nat.reduceMul, Nat.reduceSub, Nat.reduceBEq, Int.reduceToNat, Int.reduceLT, Int.reduceLE, Int.reduceEq, Int.reduceNe, Int.reduceBEq, Int.reduceBNe, Int.reduceAdd, Int.reduceSub, Int.natCast_nonneg, Bool.false_eq_true, Bool.true_eq_false, eq_self, me1, me2, me3, me4, me5, me6, me7, me8, me9, me10]
              refine hK8 _ ((o2, g2), l ++ [p.ks.l[k]]) ⟨ho2', by rw [← hR']; simp⟩ (Weak.st (by simp -implicitDefEqProofs only [go_sem, ↓reduceIte, Nat.reduceEqDiff, Nat.reduceLT, Nat.reduceLeDiff, Nat.reduceAdd, Nat.reduceMul, Nat.reduceSub, Nat.reduceBEq, Int.reduceToNat, Int.reduceLT, Int.reduceLE, Int.reduceEq, Int.reduceNe, Int.reduceBEq, Int.reduceBNe, Int.reduceAdd, Int.reduceSub, Int.natCast_nonneg, Bool.false_eq_true, Bool.true_eq_false, eq_self]) (by simp -implicitDefEqProofs only [go_sem, ↓reduceIte, Nat.reduceEqDiff, Nat.reduceLT, Nat.reduceLeDiff, Nat.reduceAdd, Nat.reduceMul, Nat.reduceSub, Nat.reduceBEq, Int.reduceToNat, Int.reduceLT, Int.reduceLE, Int.reduceEq, Int.reduceNe, Int.reduceBEq, Int.reduceBNe, Int.reduceAdd, Int.reduceSub, Int.natCast_nonneg, Bool.false_eq_true, Bool.true_eq_false, eq_self, me1, me2, me3, me4, me5, me6, me7, me8, me9, me10]))
      · rintro ⟨⟨o2, g2⟩, m⟩ ⟨ho2, hRm⟩
        obtain ⟨me1, me2, me3, me4, me5, me6, me7, me8, me9, me10⟩ := hne ho2
        refine AW.region (by kernel_rfl) ?_
        simp -implicitDefEqProofs only [go_sem, ↓reduceIte, Nat.reduceEqDiff, Nat.reduceLT, Nat.reduceLeDiff, Nat.reduceAdd, Nat.reduceMul, Nat.reduceSub, Nat.reduceBEq, Int.reduceToNat, Int.reduceLT, Int.reduceLE, Int.reduceEq, Int.reduceNe, Int.reduceBEq, Int.reduceBNe, Int.reduceAdd, Int.reduceSub, Int.natCast_nonneg, Bool.false_eq_true, Bool.true_eq_false, eq_self]
        refine hK7 _ ?_
        refine AW.region (by kernel_rfl) ?_
        simp -implicitDefEqProofs only [go_sem, ↓reduceIte, Nat.reduceEqDiff, Nat.reduceLT, Nat.reduceLeDiff, Nat.reduceAdd, Nat.reduceMul, Nat.reduceSub, Nat.reduceBEq, Int.reduceToNat, Int.reduceLT, Int.reduceLE, Int.reduceEq, Int.reduceNe, Int.reduceBEq, Int.reduceBNe, Int.reduceAdd, Int.reduceSub, Int.natCast_nonneg, Bool.false_eq_true, Bool.true_eq_false, eq_self]
        refine hL4 _ ⟨hk1, ((o2, g2), m), ⟨ho2, by rw [hnext]; exact hRm⟩, Weak.st (by simp -implicitDefEqProofs only [go_sem, ↓reduceIte, Nat.reduceEqDiff, Nat.reduceLT, Nat.reduceLeDiff, Nat.reduceAdd, Nat.reduceMul, Nat.reduceSub, Nat.reduceBEq, Int.reduceToNat, Int.reduceLT, Int.reduceLE, Int.reduceEq, Int.reduceNe, Int.reduceBEq, Int.reduceBNe, Int.reduceAdd, Int.reduceSub, Int.natCast_nonneg, Bool.false_eq_true, Bool.true_eq_false, eq_self]; refine ⟨congrArg _ ?_, congrArg _ (w64 (by omega) (by omega))⟩; rw [hnext, w64 (by omega) (by omega)]) (by simp -implicitDefEqProofs only [go_sem, ↓reduceIte, Nat.reduceEqDiff, Nat.reduceLT, Nat.reduceLeDiff, Nat.reduceAdd, Nat.reduceMul, Nat.reduceSub, Nat.reduceBEq, Int.reduceToNat, Int.reduceLT, Int.reduceLE, Int.reduceEq, Int.reduceNe, Int.reduceBEq, Int.reduceBNe, Int.reduceAdd, Int.reduceSub, Int.natCast_nonneg, Bool.false_eq_true, Bool.true_eq_false, eq_self, me1, me2, me3, me4, me5, me6, me7, me8, me9, me10])⟩
    · -- false
      refine AW.exit ?_
      simp -implicitDefEqProofs only [go_sem, ↓reduceIte, Nat.reduceEqDiff, Nat.reduceLT, Nat.reduceLeDiff, Nat.reduceAdd, Nat.reduceMul, Nat.reduceSub, Nat.reduceBEq, Int.reduceToNat, Int.reduceLT, Int.reduceLE, Int.reduceEq, Int.reduceNe, Int.reduceBEq, Int.reduceBNe, Int.reduceAdd, Int.reduceSub, Int.natCast_nonneg, Bool.false_eq_true, Bool.true_eq_false, eq_self]
      refine hK3 _ ?_
      have hk1 : k = p.ks.l.length := by simp at h6; omega
      have hR : l = Pt.takes n (fun q l => Pt.take n q l b) b p.ks.l leaf := by
        rw [← hR, hk1]; simp [Pt.takes]
      refine AW.weak (Weak.stF (fun x => x == o) (l := [(3, .ptr 3 g3 0), (6, .ptr 6 g6 0), (7, encSl .new 3 (encPt .any) (grownS l))]) (m := [(3, .cells .new g3 0 [.int .u8 p.op, .int .i64 p.pl, encSl .any 3 (encPt .any) p.ks]), (6, .cells .new g6 0 [.int .u8 0, .int .i64 0, .nils])]) ?_ ?_) ?_
      · simp -implicitDefEqProofs only [go_sem, ↓reduceIte, Nat.reduceEqDiff, Nat.reduceLT, Nat.reduceLeDiff, Nat.reduceAdd, Nat.reduceMul, Nat.reduceSub, Nat.reduceBEq, Int.reduceToNat, Int.reduceLT, Int.reduceLE, Int.reduceEq, Int.reduceNe, Int.reduceBEq, Int.reduceBNe, Int.reduceAdd, Int.reduceSub, Int.natCast_nonneg, Bool.false_eq_true, Bool.true_eq_false, eq_self]
        exact ⟨Fz.same _, Fz.same _, Fz.grown (by simp) (by simp -implicitDefEqProofs only [go_sem, ↓reduceIte, Nat.reduceEqDiff, Nat.reduceLT, Nat.reduceLeDiff, Nat.reduceAdd, Nat.reduceMul, Nat.reduceSub, Nat.reduceBEq, Int.reduceToNat, Int.reduceLT, Int.reduceLE, Int.reduceEq, Int.reduceNe, Int.reduceBEq, Int.reduceBNe, Int.reduceAdd, Int.reduceSub, Int.natCast_nonneg, Bool.false_eq_true, Bool.true_eq_false, eq_self, ne1, ne3, ne5]) (encPt_cells _)⟩
      · simp only [allFzO_cons, allFzO_nil, and_true]
        exact ⟨FzO.keep (by simp; rcases ho with rfl | rfl <;> simp) (by simp -implicitDefEqProofs only [go_sem, ↓reduceIte, Nat.reduceEqDiff, Nat.reduceLT, Nat.reduceLeDiff, Nat.reduceAdd, Nat.reduceMul, Nat.reduceSub, Nat.reduceBEq, Int.reduceToNat, Int.reduceLT, Int.reduceLE, Int.reduceEq, Int.reduceNe, Int.reduceBEq, Int.reduceBNe, Int.reduceAdd, Int.reduceSub, Int.natCast_nonneg, Bool.false_eq_true, Bool.true_eq_false, eq_self, ne2]), FzO.keep (by simp; rcases ho with rfl | rfl <;> simp) (by simp -implicitDefEqProofs only [go_sem, ↓reduceIte, Nat.reduceEqDiff, Nat.reduceLT, Nat.reduceLeDiff, Nat.reduceAdd, Nat.reduceMul, Nat.reduceSub, Nat.reduceBEq, Int.reduceToNat, Int.reduceLT, Int.reduceLE, Int.reduceEq, Int.reduceNe, Int.reduceBEq, Int.reduceBNe, Int.reduceAdd, Int.reduceSub, Int.natCast_nonneg, Bool.false_eq_true, Bool.true_eq_false, eq_self, ne6])⟩
      refine AW.weak (Weak.stF (fun x => false) (l := [(3, .ptr 3 g3 0), (6, .ptr 6 g6 0), (7, encSl .any 3 (encPt .any) (grownS l))]) (m := [(3, .cells .new g3 0 [.int .u8 p.op, .int .i64 p.pl, encSl .any 3 (encPt .any) p.ks]), (6, .cells .new g6 0 [.int .u8 0, .int .i64 0, .nils])]) ?_ ?_) ?_
      · simp -implicitDefEqProofs only [go_sem, ↓reduceIte, Nat.reduceEqDiff, Nat.reduceLT, Nat.reduceLeDiff, Nat.reduceAdd, Nat.reduceMul, Nat.reduceSub, Nat.reduceBEq, Int.reduceToNat, Int.reduceLT, Int.reduceLE, Int.reduceEq, Int.reduceNe, Int.reduceBEq, Int.reduceBNe, Int.reduceAdd, Int.reduceSub, Int.natCast_nonneg, Bool.false_eq_true, Bool.true_eq_false, eq_self]
        exact ⟨Fz.same _, Fz.same _, Fz.any (by simp -implicitDefEqProofs only [go_sem, ↓reduceIte, Nat.reduceEqDiff, Nat.reduceLT, Nat.reduceLeDiff, Nat.reduceAdd, Nat.reduceMul, Nat.reduceSub, Nat.reduceBEq, Int.reduceToNat, Int.reduceLT, Int.reduceLE, Int.reduceEq, Int.reduceNe, Int.reduceBEq, Int.reduceBNe, Int.reduceAdd, Int.reduceSub, Int.natCast_nonneg, Bool.false_eq_true, Bool.true_eq_false, eq_self])⟩
      · simp only [allFzO_cons, allFzO_nil, and_true]
        exact ⟨FzO.keep rfl (by simp -implicitDefEqProofs only [go_sem, ↓reduceIte, Nat.reduceEqDiff, Nat.reduceLT, Nat.reduceLeDiff, Nat.reduceAdd, Nat.reduceMul, Nat.reduceSub, Nat.reduceBEq, Int.reduceToNat, Int.reduceLT, Int.reduceLE, Int.reduceEq, Int.reduceNe, Int.reduceBEq, Int.reduceBNe, Int.reduceAdd, Int.reduceSub, Int.natCast_nonneg, Bool.false_eq_true, Bool.true_eq_false, eq_self]), FzO.keep rfl (by simp -implicitDefEqProofs only [go_sem, ↓reduceIte, Nat.reduceEqDiff, Nat.reduceLT, Nat.reduceLeDiff, Nat.reduceAdd, Nat.reduceMul, Nat.reduceSub, Nat.reduceBEq, Int.reduceToNat, Int.reduceLT, Int.reduceLE, Int.reduceEq, Int.reduceNe, Int.reduceBEq, Int.reduceBNe, Int.reduceAdd, Int.reduceSub, Int.natCast_nonneg, Bool.false_eq_true, Bool.true_eq_false, eq_self])⟩
      refine AW.seq_k fun K hK => AW.region (by kernel_rfl) ?_
      simp -implicitDefEqProofs only [go_sem, ↓reduceIte, Nat.reduceEqDiff, Nat.reduceLT, Nat.reduceLeDiff, Nat.reduceAdd, Nat.reduceMul, Nat.reduceSub, Nat.reduceBEq, Int.reduceToNat, Int.reduceLT, Int.reduceLE, Int.reduceEq, Int.reduceNe, Int.reduceBEq, Int.reduceBNe, Int.reduceAdd, Int.reduceSub, Int.natCast_nonneg, Bool.false_eq_true, Bool.true_eq_false, eq_self]
      refine CallA.pure hG (by kernel_rfl) ?_
      simp -implicitDefEqProofs only [go_sem, ↓reduceIte, Nat.reduceEqDiff, Nat.reduceLT, Nat.reduceLeDiff, Nat.reduceAdd, Nat.reduceMul, Nat.reduceSub, Nat.reduceBEq, Int.reduceToNat, Int.reduceLT, Int.reduceLE, Int.reduceEq, Int.reduceNe, Int.reduceBEq, Int.reduceBNe, Int.reduceAdd, Int.reduceSub, Int.natCast_nonneg, Bool.false_eq_true, Bool.true_eq_false, eq_self]
      have hp := rPut_spec G hG p.op (grownS l) (by rw [grownS_l, hR, Pt.takes_len]; omega) (by rw [grownS_l, hR]; exact hfl)
      simp only [encPt_K] at hp
      refine hp.mono ?_
      rintro _ _ rfl
      simp -implicitDefEqProofs only [go_sem, ↓reduceIte, Nat.reduceEqDiff, Nat.reduceLT, Nat.reduceLeDiff, Nat.reduceAdd, Nat.reduceMul, Nat.reduceSub, Nat.reduceBEq, Int.reduceToNat, Int.reduceLT, Int.reduceLE, Int.reduceEq, Int.reduceNe, Int.reduceBEq, Int.reduceBNe, Int.reduceAdd, Int.reduceSub, Int.natCast_nonneg, Bool.false_eq_true, Bool.true_eq_false, eq_self]
      refine hK _ ?_
      clear hK K
      refine AW.ret ?_
      simp -implicitDefEqProofs only [go_sem, ↓reduceIte, Nat.reduceEqDiff, Nat.reduceLT, Nat.reduceLeDiff, Nat.reduceAdd, Nat.reduceMul, Nat.reduceSub, Nat.reduceBEq, Int.reduceToNat, Int.reduceLT, Int.reduceLE, Int.reduceEq, Int.reduceNe, Int.reduceBEq, Int.reduceBNe, Int.reduceAdd, Int.reduceSub, Int.natCast_nonneg, Bool.false_eq_true, Bool.true_eq_false, eq_self]
      refine endK_some ?_
      rw [Pt.take, if_neg h2', ← hR]
end Go.Hs
end

section
namespace Go.Hs
open Go.Proofs
set_option maxRecDepth 10000
/- hopscotch/steps.all$1 -/
theorem notRight_spec (G : Nat → V) (hG : GOk G) (c1 c2 : Col) (t : Sl Nd) (ht : t.l.length < 1000000000) (hks : ∀ n ∈ t.l, n.kids.l.length < 1000000000) :
    Spec Try.prog G 44 [encTree c1 c2 t] hNone (fun v _ => v = .bool (!rightP t.l)) := by
  refine Spec.of_code' 0 6 [.tmp 2] Try.func44 rfl rfl rfl rfl fun X => ?_
  refine AW.seq_k fun K hK => AW.region (by kernel_rfl) ?_
  simp -implicitDefEqProofs only [go_sem, ↓reduceIte, Nat.reduceEqDiff, Nat.reduceLT, Nat.reduceLeDiff, Nat.reduceAdd, Nat.reduceMul, Nat.reduceSub, Nat.reduceBEq, Int.reduceToNat, Int.reduceLT, Int.reduceLE, Int.reduceEq, Int.reduceNe, Int.reduceBEq, Int.reduceBNe, Int.reduceAdd, Int.reduceSub, Int.natCast_nonneg, Bool.false_eq_true, Bool.true_eq_false, eq_self]
  intro g1
  refine hK _ ?_
  clear hK K
  refine AW.seq_k fun K hK => AW.region (by kernel_rfl) ?_
  simp -implicitDefEqProofs only [go_sem, ↓reduceIte, Nat.reduceEqDiff, Nat.reduceLT, Nat.reduceLeDiff, Nat.reduceAdd, Nat.reduceMul, Nat.reduceSub, Nat.reduceBEq, Int.reduceToNat, Int.reduceLT, Int.reduceLE, Int.reduceEq, Int.reduceNe, Int.reduceBEq, Int.reduceBNe, Int.reduceAdd, Int.reduceSub, Int.natCast_nonneg, Bool.false_eq_true, Bool.true_eq_false, eq_self]
  refine CallA.pure hG (by kernel_rfl) ?_
  simp -implicitDefEqProofs only [go_sem, ↓reduceIte, Nat.reduceEqDiff, Nat.reduceLT, Nat.reduceLeDiff, Nat.reduceAdd, Nat.reduceMul, Nat.reduceSub, Nat.reduceBEq, Int.reduceToNat, Int.reduceLT, Int.reduceLE, Int.reduceEq, Int.reduceNe, Int.reduceBEq, Int.reduceBNe, Int.reduceAdd, Int.reduceSub, Int.natCast_nonneg, Bool.false_eq_true, Bool.true_eq_false, eq_self]
  refine (right_spec G hG _ _ t ht hks).mono ?_
  rintro _ _ rfl
  simp -implicitDefEqProofs only [go_sem, ↓reduceIte, Nat.reduceEqDiff, Nat.reduceLT, Nat.reduceLeDiff, Nat.reduceAdd, Nat.reduceMul, Nat.reduceSub, Nat.reduceBEq, Int.reduceToNat, Int.reduceLT, Int.reduceLE, Int.reduceEq, Int.reduceNe, Int.reduceBEq, Int.reduceBNe, Int.reduceAdd, Int.reduceSub, Int.natCast_nonneg, Bool.false_eq_true, Bool.true_eq_false, eq_self]
  refine hK _ ?_
  clear hK K
  refine AW.ret ?_
  simp -implicitDefEqProofs only [go_sem, ↓reduceIte, Nat.reduceEqDiff, Nat.reduceLT, Nat.reduceLeDiff, Nat.reduceAdd, Nat.reduceMul, Nat.reduceSub, Nat.reduceBEq, Int.reduceToNat, Int.reduceLT, Int.reduceLE, Int.reduceEq, Int.reduceNe, Int.reduceBEq, Int.reduceBNe, Int.reduceAdd, Int.reduceSub, Int.natCast_nonneg, Bool.false_eq_true, Bool.true_eq_false, eq_self]
  refine endK_some ?_
  rfl
/-- What InOrder and Beside yield. -/
def allP (op : Int) (L : List (List Nd)) : List Nd := if L.all rightP = true then putS op L else []
/- hopscotch/steps.all -/
theorem all_spec (G : Nat → V) (hG : GOk G) (c0 c1 c2 : Col) (op : Int) (l : Sl (Sl Nd)) (hl : l.l.length < 1000000000) (ht : ∀ t ∈ l.l, t.l.length < 1000000000) (hks : ∀ t ∈ l.l, ∀ n ∈ t.l, n.kids.l.length < 1000000000)
    (hok : (l.l.map Sl.l).all rightP = true → PutOk op l) :
    Spec Try.prog G 38 [.int .u8 op, encSl c0 1 (encTree c1 c2) l] hNone (fun v _ => v = encTree .new .new (grownS (allP op (l.l.map Sl.l)))) := by
  refine Spec.of_code' 0 11 [ResultVar.cell 4 24] Try.func38 rfl rfl rfl rfl fun X => ?_
  refine AW.seq_k fun K hK => AW.region (by kernel_rfl) ?_
  simp -implicitDefEqProofs only [go_sem, ↓reduceIte, Nat.reduceEqDiff, Nat.reduceLT, Nat.reduceLeDiff, Nat.reduceAdd, Nat.reduceMul, Nat.reduceSub, Nat.reduceBEq, Int.reduceToNat, Int.reduceLT, Int.reduceLE, Int.reduceEq, Int.reduceNe, Int.reduceBEq, Int.reduceBNe, Int.reduceAdd, Int.reduceSub, Int.natCast_nonneg, Bool.false_eq_true, Bool.true_eq_false, eq_self]
  intro g4
  refine hK _ ?_
  clear hK K
  refine AW.seq_k fun K1 hK1 => ?_
  refine AW.seq_k fun K hK => AW.region (by kernel_rfl) ?_
  simp -implicitDefEqProofs only [go_sem, ↓reduceIte, Nat.reduceEqDiff, Nat.reduceLT, Nat.reduceLeDiff, Nat.reduceAdd, Nat.reduceMul, Nat.reduceSub, Nat.reduceBEq, Int.reduceToNat, Int.reduceLT, Int.reduceLE, Int.reduceEq, Int.reduceNe, Int.reduceBEq, Int.reduceBNe, Int.reduceAdd, Int.reduceSub, Int.natCast_nonneg, Bool.false_eq_true, Bool.true_eq_false, eq_self]
  refine CallA.pure hG (by kernel_rfl) ?_
  simp -implicitDefEqProofs only [go_sem, ↓reduceIte, Nat.reduceEqDiff, Nat.reduceLT, Nat.reduceLeDiff, Nat.reduceAdd, Nat.reduceMul, Nat.reduceSub, Nat.reduceBEq, Int.reduceToNat, Int.reduceLT, Int.reduceLE, Int.reduceEq, Int.reduceNe, Int.reduceBEq, Int.reduceBNe, Int.reduceAdd, Int.reduceSub, Int.natCast_nonneg, Bool.false_eq_true, Bool.true_eq_false, eq_self, List.map_nil]
  refine (fTContains_spec G hG _ _ _ l hl 44 [] (by kernel_rfl) (fun t => !rightP t.l) rfl (fun c1 c2 t h => notRight_spec G hG c1 c2 t (ht t h) (hks t h))).mono ?_
  rintro _ _ rfl
  have hany : (l.l.any fun t => !rightP t.l) = !((l.l.map Sl.l).all rightP) := by
    rw [List.all_map, List.not_all_eq_any_not]
    rfl
  rw [hany]
  simp -implicitDefEqProofs only [go_sem, ↓reduceIte, Nat.reduceEqDiff, Nat.reduceLT, Nat.reduceLeDiff, Nat.reduceAdd, Nat.reduceMul, Nat.reduceSub, Nat.reduceBEq, Int.reduceToNat, Int.reduceLT, Int.reduceLE, Int.reduceEq, Int.reduceNe, Int.reduceBEq, Int.reduceBNe, Int.reduceAdd, Int.reduceSub, Int.natCast_nonneg, Bool.false_eq_true, Bool.true_eq_false, eq_self]
  refine hK _ ?_
  clear hK K
  refine AW.condS (by simp -implicitDefEqProofs only [go_sem, ↓reduceIte, Nat.reduceEqDiff, Nat.reduceLT, Nat.reduceLeDiff, Nat.reduceAdd, Nat.reduceMul, Nat.reduceSub, Nat.reduceBEq, Int.reduceToNat, Int.reduceLT, Int.reduceLE, Int.reduceEq, Int.reduceNe, Int.reduceBEq, Int.reduceBNe, Int.reduceAdd, Int.reduceSub, Int.natCast_nonneg, Bool.false_eq_true, Bool.true_eq_false, eq_self]; rfl) (fun h2 => ?_) (fun h2 => ?_)
  · have h2' : ¬ (l.l.map Sl.l).all rightP = true := by intro e; rw [e] at h2; simp at h2
    refine AW.seq_k fun K hK => AW.region (by kernel_rfl) ?_
    simp -implicitDefEqProofs only [go_sem, ↓reduceIte, Nat.reduceEqDiff, Nat.reduceLT, Nat.reduceLeDiff, Nat.reduceAdd, Nat.reduceMul, Nat.reduceSub, Nat.reduceBEq, Int.reduceToNat, Int.reduceLT, Int.reduceLE, Int.reduceEq, Int.reduceNe, Int.reduceBEq, Int.reduceBNe, Int.reduceAdd, Int.reduceSub, Int.natCast_nonneg, Bool.false_eq_true, Bool.true_eq_false, eq_self]
    refine hK _ ?_
    clear hK K
    refine AW.ret ?_
    simp -implicitDefEqProofs only [go_sem, ↓reduceIte, Nat.reduceEqDiff, Nat.reduceLT, Nat.reduceLeDiff, Nat.reduceAdd, Nat.reduceMul, Nat.reduceSub, Nat.reduceBEq, Int.reduceToNat, Int.reduceLT, Int.reduceLE, Int.reduceEq, Int.reduceNe, Int.reduceBEq, Int.reduceBNe, Int.reduceAdd, Int.reduceSub, Int.natCast_nonneg, Bool.false_eq_true, Bool.true_eq_false, eq_self]
    refine endK_some ?_
    rw [allP, if_neg h2']
    rfl
  · have h2' : (l.l.map Sl.l).all rightP = true := by simpa using h2
    refine AW.skip ?_
    simp -implicitDefEqProofs only [go_sem, ↓reduceIte, Nat.reduceEqDiff, Nat.reduceLT, Nat.reduceLeDiff, Nat.reduceAdd, Nat.reduceMul, Nat.reduceSub, Nat.reduceBEq, Int.reduceToNat, Int.reduceLT, Int.reduceLE, Int.reduceEq, Int.reduceNe, Int.reduceBEq, Int.reduceBNe, Int.reduceAdd, Int.reduceSub, Int.natCast_nonneg, Bool.false_eq_true, Bool.true_eq_false, eq_self]
    refine hK1 _ ?_
    refine AW.seq_k fun K hK => AW.region (by kernel_rfl) ?_
    simp -implicitDefEqProofs only [go_sem, ↓reduceIte, Nat.reduceEqDiff, Nat.reduceLT, Nat.reduceLeDiff, Nat.reduceAdd, Nat.reduceMul, Nat.reduceSub, Nat.reduceBEq, Int.reduceToNat, Int.reduceLT, Int.reduceLE, Int.reduceEq, Int.reduceNe, Int.reduceBEq, Int.reduceBNe, Int.reduceAdd, Int.reduceSub, Int.natCast_nonneg, Bool.false_eq_true, Bool.true_eq_false, eq_self]
    refine CallA.pure hG (by kernel_rfl) ?_
    simp -implicitDefEqProofs only [go_sem, ↓reduceIte, Nat.reduceEqDiff, Nat.reduceLT, Nat.reduceLeDiff, Nat.reduceAdd, Nat.reduceMul, Nat.reduceSub, Nat.reduceBEq, Int.reduceToNat, Int.reduceLT, Int.reduceLE, Int.reduceEq, Int.reduceNe, Int.reduceBEq, Int.reduceBNe, Int.reduceAdd, Int.reduceSub, Int.natCast_nonneg, Bool.false_eq_true, Bool.true_eq_false, eq_self]
    refine (put_spec G hG _ _ _ op l (hok h2')).mono ?_
    rintro _ _ rfl
    simp -implicitDefEqProofs only [go_sem, ↓reduceIte, Nat.reduceEqDiff, Nat.reduceLT, Nat.reduceLeDiff, Nat.reduceAdd, Nat.reduceMul, Nat.reduceSub, Nat.reduceBEq, Int.reduceToNat, Int.reduceLT, Int.reduceLE, Int.reduceEq, Int.reduceNe, Int.reduceBEq, Int.reduceBNe, Int.reduceAdd, Int.reduceSub, Int.natCast_nonneg, Bool.false_eq_true, Bool.true_eq_false, eq_self]
    refine hK _ ?_
    clear hK K
    refine AW.ret ?_
    simp -implicitDefEqProofs only [go_sem, ↓reduceIte, Nat.reduceEqDiff, Nat.reduceLT, Nat.reduceLeDiff, Nat.reduceAdd, Nat.reduceMul, Nat.reduceSub, Nat.reduceBEq, Int.reduceToNat, Int.reduceLT, Int.reduceLE, Int.reduceEq, Int.reduceNe, Int.reduceBEq, Int.reduceBNe, Int.reduceAdd, Int.reduceSub, Int.natCast_nonneg, Bool.false_eq_true, Bool.true_eq_false, eq_self]
    refine endK_some ?_
    rw [allP, if_pos h2']
theorem inOrder_spec (G : Nat → V) (hG : GOk G) (c0 c1 c2 : Col) (l : Sl (Sl Nd)) (hl : l.l.length < 1000000000) (ht : ∀ t ∈ l.l, t.l.length < 1000000000) (hks : ∀ t ∈ l.l, ∀ n ∈ t.l, n.kids.l.length < 1000000000)
    (hok : (l.l.map Sl.l).all rightP = true → PutOk 1 l) :
    Spec Try.prog G 22 [encSl c0 1 (encTree c1 c2) l] hNone (fun v _ => v = encTree .new .new (grownS (allP 1 (l.l.map Sl.l)))) := by
  refine Spec.of_code' 0 5 [ResultVar.cell 2 24] Try.func22 rfl rfl rfl rfl fun X => ?_
  refine AW.seq_k fun K hK => AW.region (by kernel_rfl) ?_
  simp -implicitDefEqProofs only [go_sem, ↓reduceIte, Nat.reduceEqDiff, Nat.reduceLT, Nat.reduceLeDiff, Nat.reduceAdd, Nat.reduceMul, Nat.reduceSub, Nat.reduceBEq, Int.reduceToNat, Int.reduceLT, Int.reduceLE, Int.reduceEq, Int.reduceNe, Int.reduceBEq, Int.reduceBNe, Int.reduceAdd, Int.reduceSub, Int.natCast_nonneg, Bool.false_eq_true, Bool.true_eq_false, eq_self]
  intro g2
  refine hK _ ?_
  clear hK K
  refine AW.seq_k fun K hK => AW.region (by kernel_rfl) ?_
  simp -implicitDefEqProofs only [go_sem, ↓reduceIte, Nat.reduceEqDiff, Nat.reduceLT, Nat.reduceLeDiff, Nat.reduceAdd, Nat.reduceMul, Nat.reduceSub, Nat.reduceBEq, Int.reduceToNat, Int.reduceLT, Int.reduceLE, Int.reduceEq, Int.reduceNe, Int.reduceBEq, Int.reduceBNe, Int.reduceAdd, Int.reduceSub, Int.natCast_nonneg, Bool.false_eq_true, Bool.true_eq_false, eq_self]
  refine CallA.pure hG (by kernel_rfl) ?_
  simp -implicitDefEqProofs only [go_sem, ↓reduceIte, Nat.reduceEqDiff, Nat.reduceLT, Nat.reduceLeDiff, Nat.reduceAdd, Nat.reduceMul, Nat.reduceSub, Nat.reduceBEq, Int.reduceToNat, Int.reduceLT, Int.reduceLE, Int.reduceEq, Int.reduceNe, Int.reduceBEq, Int.reduceBNe, Int.reduceAdd, Int.reduceSub, Int.natCast_nonneg, Bool.false_eq_true, Bool.true_eq_false, eq_self]
  refine (all_spec G hG _ _ _ 1 l hl ht hks hok).mono ?_
  rintro _ _ rfl
  simp -implicitDefEqProofs only [go_sem, ↓reduceIte, Nat.reduceEqDiff, Nat.reduceLT, Nat.reduceLeDiff, Nat.reduceAdd, Nat.reduceMul, Nat.reduceSub, Nat.reduceBEq, Int.reduceToNat, Int.reduceLT, Int.reduceLE, Int.reduceEq, Int.reduceNe, Int.reduceBEq, Int.reduceBNe, Int.reduceAdd, Int.reduceSub, Int.natCast_nonneg, Bool.false_eq_true, Bool.true_eq_false, eq_self]
  refine hK _ ?_
  clear hK K
  refine AW.ret ?_
  simp -implicitDefEqProofs only [go_sem, ↓reduceIte, Nat.reduceEqDiff, Nat.reduceLT, Nat.reduceLeDiff, Nat.reduceAdd, Nat.reduceMul, Nat.reduceSub, Nat.reduceBEq, Int.reduceToNat, Int.reduceLT, Int.reduceLE, Int.reduceEq, Int.reduceNe, Int.reduceBEq, Int.reduceBNe, Int.reduceAdd, Int.reduceSub, Int.natCast_nonneg, Bool.false_eq_true, Bool.true_eq_false, eq_self]
  refine endK_some ?_
  rfl
theorem beside_spec (G : Nat → V) (hG : GOk G) (c0 c1 c2 : Col) (l : Sl (Sl Nd)) (hl : l.l.length < 1000000000) (ht : ∀ t ∈ l.l, t.l.length < 1000000000) (hks : ∀ t ∈ l.l, ∀ n ∈ t.l, n.kids.l.length < 1000000000)
    (hok : (l.l.map Sl.l).all rightP = true → PutOk 2 l) :
    Spec Try.prog G 23 [encSl c0 1 (encTree c1 c2) l] hNone (fun v _ => v = encTree .new .new (grownS (allP 2 (l.l.map Sl.l)))) := by
  refine Spec.of_code' 0 5 [ResultVar.cell 2 24] Try.func23 rfl rfl rfl rfl fun X => ?_
  refine AW.seq_k fun K hK => AW.region (by kernel_rfl) ?_
  simp -implicitDefEqProofs only [go_sem, ↓reduceIte, Nat.reduceEqDiff, Nat.reduceLT, Nat.reduceLeDiff, Nat.reduceAdd, Nat.reduceMul, Nat.reduceSub, Nat.reduceBEq, Int.reduceToNat, Int.reduceLT, Int.reduceLE, Int.reduceEq, Int.reduceNe, Int.reduceBEq, Int.reduceBNe, Int.reduceAdd, Int.reduceSub, Int.natCast_nonneg, Bool.false_eq_true, Bool.true_eq_false, eq_self]
  intro g2
  refine hK _ ?_
  clear hK K
  refine AW.seq_k fun K hK => AW.region (by kernel_rfl) ?_
  simp -implicitDefEqProofs only [go_sem, ↓reduceIte, Nat.reduceEqDiff, Nat.reduceLT, Nat.reduceLeDiff, Nat.reduceAdd, Nat.reduceMul, Nat.reduceSub, Nat.reduceBEq, Int.reduceToNat, Int.reduceLT, Int.reduceLE, Int.reduceEq, Int.reduceNe, Int.reduceBEq, Int.reduceBNe, Int.reduceAdd, Int.reduceSub, Int.natCast_nonneg, Bool.false_eq_true, Bool.true_eq_false, eq_self]
  refine CallA.pure hG (by kernel_rfl) ?_
  simp -implicitDefEqProofs only [go_sem, ↓reduceIte, Nat.reduceEqDiff, Nat.reduceLT, Nat.reduceLeDiff, Nat.reduceAdd, Nat.reduceMul, Nat.reduceSub, Nat.reduceBEq, Int.reduceToNat, Int.reduceLT, Int.reduceLE, Int.reduceEq, Int.reduceNe, Int.reduceBEq, Int.reduceBNe, Int.reduceAdd, Int.reduceSub, Int.natCast_nonneg, Bool.false_eq_true, Bool.true_eq_false, eq_self]
  refine (all_spec G hG _ _ _ 2 l hl ht hks hok).mono ?_
  rintro _ _ rfl
  simp -implicitDefEqProofs only [go_sem, ↓reduceIte, Nat.reduceEqDiff, Nat.reduceLT, Nat.reduceLeDiff, Nat.reduceAdd, Nat.reduceMul, Nat.reduceSub, Nat.reduceBEq, Int.reduceToNat, Int.reduceLT, Int.reduceLE, Int.reduceEq, Int.reduceNe, Int.reduceBEq, Int.reduceBNe, Int.reduceAdd, Int.reduceSub, Int.natCast_nonneg, Bool.false_eq_true, Bool.true_eq_false, eq_self]
  refine hK _ ?_
  clear hK K
  refine AW.ret ?_
  simp -implicitDefEqProofs only [go_sem, ↓reduceIte, Nat.reduceEqDiff, Nat.reduceLT, Nat.reduceLeDiff, Nat.reduceAdd, Nat.reduceMul, Nat.reduceSub, Nat.reduceBEq, Int.reduceToNat, Int.reduceLT, Int.reduceLE, Int.reduceEq, Int.reduceNe, Int.reduceBEq, Int.reduceBNe, Int.reduceAdd, Int.reduceSub, Int.natCast_nonneg, Bool.false_eq_true, Bool.true_eq_false, eq_self]
  refine endK_some ?_
  rfl
end Go.Hs
end

section
/- What steps.Take and steps.InOrder yield, against the reference. -/
namespace Go.Hs
mutual
theorem ready_leaf {l : List Nd} : ∀ (t : T) (b : Nat), t.good → Seg l b (t.vrow b) → ∀ x ∈ t.ready b, (b : Int) ≤ x ∧ x < ((b + t.sz : Nat) : Int) ∧ ∃ n, l[x.toNat]? = some n ∧ n.op ≥ 3
  | .mk op pl k, b, hg, hs, x, hx => by
    obtain ⟨n, hn, e1', _, _⟩ := hs.root
    have e1 : n.op = op := e1'
    clear e1'
    rw [T.vrow, Seg.app] at hs
    rw [T.sz] at hn ⊢
    rw [T.ready] at hx
    rw [T.good] at hg
    rcases hg with ⟨h1, h2, rfl⟩ | ⟨h1, rfl, h2, h3⟩
    · rw [if_pos h1, List.mem_singleton] at hx
      subst hx
      have e9 : T.szs [] = 0 := rfl
      exact ⟨by omega, by omega, n, hn, by omega⟩
    · rw [if_neg (by omega)] at hx
      have := readys_leaf op true k b h3 hs.1 x hx
      exact ⟨this.1, by omega, this.2.2⟩
theorem readys_leaf {l : List Nd} (op : Int) (first : Bool) : ∀ (k : List T) (b : Nat), T.goods op k → Seg l b (T.vrows k b) → ∀ x ∈ T.readys op first k b, (b : Int) ≤ x ∧ x < ((b + T.szs k : Nat) : Int) ∧ ∃ n, l[x.toNat]? = some n ∧ n.op ≥ 3
  | [], _, _, _, x, hx => by simp [T.readys] at hx
  | p :: r, b, hg, hs, x, hx => by
    rw [T.goods] at hg
    rw [T.vrows, Seg.app, T.vrow_len] at hs
    have hsz := (T.good_full p hg.1).2
    rw [T.readys, hsz, List.mem_append] at hx
    rw [T.szs]
    rcases hx with hx | hx
    · split at hx
      · have := ready_leaf p b hg.1 hs.1 x hx
        exact ⟨this.1, by omega, this.2.2⟩
      · cases hx
    · have := readys_leaf op false r (b + p.sz) hg.2.2 hs.2 x hx
      exact ⟨by omega, by omega, this.2.2⟩
end
mutual
theorem ready_count : ∀ (t : T) (b : Nat), t.good → (t.ready b).length ≤ t.sz
  | .mk op pl k, b, hg => by
    rw [T.ready, T.sz]
    split
    · simp
    · rw [T.good] at hg
      have h3 : T.goods op k := by
        rcases hg with h | h
        · omega
        · exact h.2.2.2
      have := readys_count op true k b h3
      omega
theorem readys_count (op : Int) (first : Bool) : ∀ (k : List T) (b : Nat), T.goods op k → (T.readys op first k b).length ≤ T.szs k
  | [], _, _ => by simp [T.readys]
  | p :: r, b, h => by
    rw [T.goods] at h
    have h1 := ready_count p b h.1
    have h2 := readys_count op false r (b + p.size) h.2.2
    rw [T.readys, List.length_append, T.szs]
    split
    · omega
    · simp; omega
end
theorem readyP_len (l : List Nd) : (readyP l).length ≤ l.length := by
  by_cases h : rightP l = true
  · obtain ⟨t, ht⟩ := RowIs.of_right h
    rw [ht.ready]
    by_cases h0 : t.op = 0
    · rw [if_pos h0]; simp
    · rw [if_neg h0]
      rcases ht with ⟨rfl, _⟩ | ⟨h1, h2⟩
      · exact absurd rfl h0
      · have := ready_count t 0 h1
        rw [← List.length_map Nd.v, h2, T.vrow_len]
        exact this
  · rw [readyP, if_pos (.inr (by simpa using h))]; simp
/-- **Take is take.** -/
theorem take_law {l br : List Nd} {t B : T} {leaf : Int} (h : RowIs l t) (hb : RowIs br B) (hr : leaf ∈ readyP l) (hz : t.sz + B.sz < 999999999) :
    RowIs (takeP l leaf br) (t.tk leaf B) ∧ TakeOk l leaf br l.length (l.length - 1) := by
  have hc : (readyP l).contains leaf = true := by simpa using hr
  rw [takeP, if_pos ⟨hb.right, hc⟩]
  have hready := h.ready
  rcases h with ⟨rfl, rfl⟩ | ⟨hg, hv⟩
  · have hr : leaf ∈ ([] : List Int) := hr
    cases hr
  · have hl : l.length = t.sz := by rw [← List.length_map Nd.v, hv, T.vrow_len]
    have hs : Seg l 0 (t.vrow 0) := by intro j x hj; rw [hv, Nat.zero_add, hj]
    rw [hready, if_neg (T.good_op hg)] at hr
    obtain ⟨h1, h2, n, hn, h3⟩ := ready_leaf t 0 hg hs leaf hr
    have := take_tree hb (leaf := leaf) (l := l) (fun m hm => by rw [hn] at hm; cases hm; exact h3) (by omega) t 0 l.length hg hs (by omega) hz
    rw [if_pos ⟨h1, h2⟩, Nat.zero_add, ← hl] at this
    simpa using this
/-! ### The reference's Take -/
theorem Pt.takes_v (n : Nat) (f : Pt → Int → Pt) (b : Pt) : ∀ (l : List Pt) (leaf : Int), (∀ q ∈ l, ∀ x, (f q x).v = q.v.tk x b.v) → (Pt.takes n f b l leaf).map Pt.v = T.tks (l.map Pt.v) leaf b.v
  | [], _, _ => rfl
  | p :: r, leaf, h => by
    rw [Pt.takes, List.map_cons, List.map_cons, T.tks, Pt.takes_v n f b r _ fun q hq => h q (by simp [hq])]
    congr 1
    split
    · exact h p (by simp) leaf
    · rfl
theorem Pt.take_v (b : Pt) : ∀ (n : Nat) (p : Pt) (leaf : Int), p.dep ≤ n → (Pt.take n p leaf b).v = p.v.tk leaf b.v
  | 0, p, _, h => by obtain ⟨_, _, _, _⟩ := p; simp [Pt.dep] at h
  | n + 1, p, leaf, h => by
    rw [Pt.take, Pt.v_K p, T.tk]
    split
    · rfl
    · rw [Pt.put_v, Pt.takes_v n _ b p.ks.l leaf fun q hq x => Pt.take_v b n q x (by have := Pt.dep_kid hq; omega)]
theorem flatMap_v (op : Int) (l : List Pt) : (l.flatMap (Pt.putKids op)).map Pt.v = (l.map Pt.v).flatMap (Hs.putKids op) := by
  rw [List.map_flatMap, List.flatMap_map]
  simp only [Pt.putKids_v]
theorem takeOk_of {b : Pt} : ∀ (n : Nat) (p : Pt) (leaf : Int), p.dep ≤ n → p.v.good → p.v.sz + b.v.sz < 1000000000 → takeOk n p leaf b
  | 0, p, _, h, _, _ => by obtain ⟨_, _, _, _⟩ := p; simp [Pt.dep] at h
  | n + 1, p, leaf, h, hg, hz => by
    rw [takeOk]
    by_cases h3 : p.op ≥ 3
    · exact .inl h3
    · have hf := T.good_full _ hg
      have hk : T.goods p.op (p.ks.l.map Pt.v) ∧ p.v.sz = T.szs (p.ks.l.map Pt.v) + 1 := by
        rw [Pt.v_K] at hg ⊢
        rw [T.good] at hg
        refine ⟨?_, by rw [T.sz]⟩
        rcases hg with hg | hg
        · omega
        · exact hg.2.2.2
      refine .inr ⟨hf.1, by rw [hf.2]; omega, ?_, fun k hk1 _ _ => ?_⟩
      · rw [← List.length_map Pt.v, flatMap_v, Pt.takes_v n _ b p.ks.l leaf fun q hq x => Pt.take_v b n q x (by have := Pt.dep_kid hq; omega)]
        have h4 := tks_sz p.op (p.ks.l.map Pt.v) leaf b.v hk.1
        have h5 := put_szs p.op (T.tks (p.ks.l.map Pt.v) leaf b.v)
        have h6 := T.szs_len ((T.tks (p.ks.l.map Pt.v) leaf b.v).flatMap (Hs.putKids p.op))
        omega
      · have hm := List.getElem_mem hk1
        have hgk := ((T.goods_iff _ _).1 hk.1 _ (List.mem_map_of_mem hm)).1
        have hsz : (p.ks.l[k]).v.sz ≤ T.szs (p.ks.l.map Pt.v) := by
          have : ∀ (l : List T) (t : T), t ∈ l → t.sz ≤ T.szs l := by
            intro l
            induction l with
            | nil => intro t ht; cases ht
            | cons q r ih =>
              intro t ht
              rw [T.szs]
              rcases List.mem_cons.1 ht with rfl | ht
              · omega
              · have := ih t ht; omega
          exact this _ _ (List.mem_map_of_mem hm)
        exact takeOk_of n _ _ (by have := Pt.dep_kid hm; omega) hgk (by omega)
end Go.Hs
end

section
namespace Go.Hs
open Go.Proofs
set_option maxRecDepth 10000
def wT1 : List Nd := allP 1 [leafN 4 1, leafN 5 4]
def wT : List Nd := allP 1 [leafN 3 3, [], wT1]
def wU1 : List Nd := allP 2 [leafN 3 3, leafN 3 6]
def wU : List Nd := allP 1 [wU1, leafN 3 1]
def wV : List Nd := takeP wU 0 []
theorem wT1_eq : wT1 = [⟨4, 1, .mk false []⟩, ⟨5, 4, .mk false []⟩, ⟨1, 0, .mk false [0, 1]⟩] := by rfl
theorem wT_eq : wT = [⟨3, 3, .mk false []⟩, ⟨4, 1, .mk false []⟩, ⟨5, 4, .mk false []⟩, ⟨1, 0, .mk false [0, 1, 2]⟩] := by rfl
theorem wU1_eq : wU1 = [⟨3, 3, .mk false []⟩, ⟨3, 6, .mk false []⟩, ⟨2, 0, .mk false [0, 1]⟩] := by rfl
theorem wU_eq : wU = [⟨3, 3, .mk false []⟩, ⟨3, 6, .mk false []⟩, ⟨2, 0, .mk false [0, 1]⟩, ⟨3, 1, .mk false []⟩, ⟨1, 0, .mk false [2, 3]⟩] := by rfl
theorem wV_eq : wV = [⟨3, 6, .mk false []⟩, ⟨3, 1, .mk false []⟩, ⟨1, 0, .mk false [0, 1]⟩] := by rfl
theorem rowsIs_of : ∀ L : List (List Nd), L.all rightP = true → ∃ Ts, RowsIs L Ts ∧ T.szs Ts ≤ (L.map List.length).sum + L.length
  | [], _ => ⟨[], trivial, by simp [T.szs]⟩
  | r :: L, h => by
    rw [List.all_cons, Bool.and_eq_true] at h
    obtain ⟨Ts, h1, h2⟩ := rowsIs_of L h.2
    obtain ⟨t, ht⟩ := RowIs.of_right h.1
    refine ⟨t :: Ts, ⟨ht, h1⟩, ?_⟩
    rw [T.szs, List.map_cons, List.sum_cons, List.length_cons]
    rcases ht with ⟨rfl, rfl⟩ | ⟨h3, h4⟩
    · simp [T.zero, T.sz, T.szs]; omega
    · have : r.length = t.sz := by rw [← List.length_map Nd.v, h4, T.vrow_len]
      omega
/-- What InOrder and Beside need: the rows are small. -/
theorem allOk {op : Int} (hop : op = 1 ∨ op = 2) {l : Sl (Sl Nd)} (h : ((l.l.map Sl.l).map List.length).sum + l.l.length < 1000000000) : (l.l.map Sl.l).all rightP = true → PutOk op l := by
  intro hr
  obtain ⟨Ts, h1, h2⟩ := rowsIs_of _ hr
  rw [List.length_map] at h2
  exact putOk_of hop h1 (by omega)
theorem RowIs.sz_le {l : List Nd} {t : T} (h : RowIs l t) : t.sz ≤ l.length + 1 := by
  rcases h with ⟨rfl, rfl⟩ | ⟨h1, h2⟩
  · simp [T.zero, T.sz, T.szs]
  · rw [← List.length_map Nd.v, h2, T.vrow_len]; omega
theorem takeOk_all {l br : List Nd} {leaf : Int} (hz : l.length + br.length < 900000000) (h : rightP br = true ∧ (readyP l).contains leaf = true) : TakeOk l leaf br l.length (l.length - 1) := by
  have hr : rightP l = true := by
    cases hr : rightP l with
    | true => rfl
    | false => rw [readyP, if_pos (.inr hr)] at h; simp at h
  obtain ⟨t, ht⟩ := RowIs.of_right hr
  obtain ⟨B, hB⟩ := RowIs.of_right h.1
  have h1 := ht.sz_le
  have h2 := hB.sz_le
  exact (take_law ht hB (by simpa using h.2) (by omega)).2
theorem im_int {k : IntKind} (x : Int) : ∀ y ∈ (V.int k x).cells, y.Im := fun y hy => by simp [V.cells] at hy; subst hy; exact .int _ _
/- hopscotchlaw22.works -/
theorem works_spec (G : Nat → V) (hG : GOk G) : Spec Try.prog G 7 [] hNone (fun v _ => v = .bool true) := by
  refine Spec.of_code' 0 69 [.tmp 0] Try.func7 rfl rfl rfl rfl fun X => ?_
  refine AW.seq_k fun K hK => AW.region (by kernel_rfl) ?_
  simp -implicitDefEqProofs only [go_sem, ↓reduceIte, Nat.reduceEqDiff, Nat.reduceLT, Nat.reduceLeDiff, Nat.reduceAdd, Nat.reduceMul, Nat.reduceSub, Nat.reduceBEq, Int.reduceToNat, Int.reduceLT, Int.reduceLE, Int.reduceEq, Int.reduceNe, Int.reduceBEq, Int.reduceBNe, Int.reduceAdd, Int.reduceSub, Int.natCast_nonneg, Bool.false_eq_true, Bool.true_eq_false, eq_self]
  refine hK _ ?_
  clear hK K
  refine AW.seq_k fun K hK => AW.region (by kernel_rfl) ?_
  simp -implicitDefEqProofs only [go_sem, ↓reduceIte, Nat.reduceEqDiff, Nat.reduceLT, Nat.reduceLeDiff, Nat.reduceAdd, Nat.reduceMul, Nat.reduceSub, Nat.reduceBEq, Int.reduceToNat, Int.reduceLT, Int.reduceLE, Int.reduceEq, Int.reduceNe, Int.reduceBEq, Int.reduceBNe, Int.reduceAdd, Int.reduceSub, Int.natCast_nonneg, Bool.false_eq_true, Bool.true_eq_false, eq_self]
  refine CallA.pure hG (by kernel_rfl) ?_
  simp -implicitDefEqProofs only [go_sem, ↓reduceIte, Nat.reduceEqDiff, Nat.reduceLT, Nat.reduceLeDiff, Nat.reduceAdd, Nat.reduceMul, Nat.reduceSub, Nat.reduceBEq, Int.reduceToNat, Int.reduceLT, Int.reduceLE, Int.reduceEq, Int.reduceNe, Int.reduceBEq, Int.reduceBNe, Int.reduceAdd, Int.reduceSub, Int.natCast_nonneg, Bool.false_eq_true, Bool.true_eq_false, eq_self, List.map_cons, List.map_nil]
  refine (leaf_spec G hG 3 3).mono ?_
  rintro _ _ rfl
  simp -implicitDefEqProofs only [go_sem, ↓reduceIte, Nat.reduceEqDiff, Nat.reduceLT, Nat.reduceLeDiff, Nat.reduceAdd, Nat.reduceMul, Nat.reduceSub, Nat.reduceBEq, Int.reduceToNat, Int.reduceLT, Int.reduceLE, Int.reduceEq, Int.reduceNe, Int.reduceBEq, Int.reduceBNe, Int.reduceAdd, Int.reduceSub, Int.natCast_nonneg, Bool.false_eq_true, Bool.true_eq_false, eq_self]
  refine CallA.pure hG (by kernel_rfl) ?_
  simp -implicitDefEqProofs only [go_sem, ↓reduceIte, Nat.reduceEqDiff, Nat.reduceLT, Nat.reduceLeDiff, Nat.reduceAdd, Nat.reduceMul, Nat.reduceSub, Nat.reduceBEq, Int.reduceToNat, Int.reduceLT, Int.reduceLE, Int.reduceEq, Int.reduceNe, Int.reduceBEq, Int.reduceBNe, Int.reduceAdd, Int.reduceSub, Int.natCast_nonneg, Bool.false_eq_true, Bool.true_eq_false, eq_self, List.map_cons, List.map_nil]
  refine (leaf_spec G hG 4 1).mono ?_
  rintro _ _ rfl
  simp -implicitDefEqProofs only [go_sem, ↓reduceIte, Nat.reduceEqDiff, Nat.reduceLT, Nat.reduceLeDiff, Nat.reduceAdd, Nat.reduceMul, Nat.reduceSub, Nat.reduceBEq, Int.reduceToNat, Int.reduceLT, Int.reduceLE, Int.reduceEq, Int.reduceNe, Int.reduceBEq, Int.reduceBNe, Int.reduceAdd, Int.reduceSub, Int.natCast_nonneg, Bool.false_eq_true, Bool.true_eq_false, eq_self]
  refine CallA.pure hG (by kernel_rfl) ?_
  simp -implicitDefEqProofs only [go_sem, ↓reduceIte, Nat.reduceEqDiff, Nat.reduceLT, Nat.reduceLeDiff, Nat.reduceAdd, Nat.reduceMul, Nat.reduceSub, Nat.reduceBEq, Int.reduceToNat, Int.reduceLT, Int.reduceLE, Int.reduceEq, Int.reduceNe, Int.reduceBEq, Int.reduceBNe, Int.reduceAdd, Int.reduceSub, Int.natCast_nonneg, Bool.false_eq_true, Bool.true_eq_false, eq_self, List.map_cons, List.map_nil]
  refine (leaf_spec G hG 5 4).mono ?_
  rintro _ _ rfl
  simp -implicitDefEqProofs only [go_sem, ↓reduceIte, Nat.reduceEqDiff, Nat.reduceLT, Nat.reduceLeDiff, Nat.reduceAdd, Nat.reduceMul, Nat.reduceSub, Nat.reduceBEq, Int.reduceToNat, Int.reduceLT, Int.reduceLE, Int.reduceEq, Int.reduceNe, Int.reduceBEq, Int.reduceBNe, Int.reduceAdd, Int.reduceSub, Int.natCast_nonneg, Bool.false_eq_true, Bool.true_eq_false, eq_self]
  intro g8
  refine CallA.frzL (fun o => o == 8) [encSl .new 1 (encTree .new .new) (.mk false [grownS (leafN 4 1), grownS (leafN 5 4)])] [] ⟨Fz.sl (f := encTree .new .new) (l := [grownS (leafN 4 1), grownS (leafN 5 4)]) (g := g8) (fz := 0) (c := .new) rfl (by simp -implicitDefEqProofs only [go_sem, ↓reduceIte, Nat.reduceEqDiff, Nat.reduceLT, Nat.reduceLeDiff, Nat.reduceAdd, Nat.reduceMul, Nat.reduceSub, Nat.reduceBEq, Int.reduceToNat, Int.reduceLT, Int.reduceLE, Int.reduceEq, Int.reduceNe, Int.reduceBEq, Int.reduceBNe, Int.reduceAdd, Int.reduceSub, Int.natCast_nonneg, Bool.false_eq_true, Bool.true_eq_false, eq_self]; try rfl) (fun _ => rfl), trivial⟩ (by first | trivial | exact ⟨FzO.keep rfl (by simp -implicitDefEqProofs only [go_sem, ↓reduceIte, Nat.reduceEqDiff, Nat.reduceLT, Nat.reduceLeDiff, Nat.reduceAdd, Nat.reduceMul, Nat.reduceSub, Nat.reduceBEq, Int.reduceToNat, Int.reduceLT, Int.reduceLE, Int.reduceEq, Int.reduceNe, Int.reduceBEq, Int.reduceBNe, Int.reduceAdd, Int.reduceSub, Int.natCast_nonneg, Bool.false_eq_true, Bool.true_eq_false, eq_self]; try rfl), trivial⟩) ?_
  refine CallA.pure hG (by kernel_rfl) ?_
  simp -implicitDefEqProofs only [go_sem, ↓reduceIte, Nat.reduceEqDiff, Nat.reduceLT, Nat.reduceLeDiff, Nat.reduceAdd, Nat.reduceMul, Nat.reduceSub, Nat.reduceBEq, Int.reduceToNat, Int.reduceLT, Int.reduceLE, Int.reduceEq, Int.reduceNe, Int.reduceBEq, Int.reduceBNe, Int.reduceAdd, Int.reduceSub, Int.natCast_nonneg, Bool.false_eq_true, Bool.true_eq_false, eq_self, List.map_cons, List.map_nil]
  refine (inOrder_spec G hG _ _ _ (.mk false [grownS (leafN 4 1), grownS (leafN 5 4)]) (by decide) (by decide) (by decide) (allOk (by decide) (by decide))).mono ?_
  rintro _ _ rfl
  simp -implicitDefEqProofs only [go_sem, ↓reduceIte, Nat.reduceEqDiff, Nat.reduceLT, Nat.reduceLeDiff, Nat.reduceAdd, Nat.reduceMul, Nat.reduceSub, Nat.reduceBEq, Int.reduceToNat, Int.reduceLT, Int.reduceLE, Int.reduceEq, Int.reduceNe, Int.reduceBEq, Int.reduceBNe, Int.reduceAdd, Int.reduceSub, Int.natCast_nonneg, Bool.false_eq_true, Bool.true_eq_false, eq_self]
  intro g10
  refine CallA.frzL (fun o => o == 10) [encSl .new 1 (encTree .new .new) (.mk false [grownS (leafN 3 3), .nil, grownS (allP 1 [leafN 4 1, leafN 5 4])])] [] ⟨Fz.sl (f := encTree .new .new) (l := [grownS (leafN 3 3), .nil, grownS (allP 1 [leafN 4 1, leafN 5 4])]) (g := g10) (fz := 0) (c := .new) rfl (by simp -implicitDefEqProofs only [go_sem, ↓reduceIte, Nat.reduceEqDiff, Nat.reduceLT, Nat.reduceLeDiff, Nat.reduceAdd, Nat.reduceMul, Nat.reduceSub, Nat.reduceBEq, Int.reduceToNat, Int.reduceLT, Int.reduceLE, Int.reduceEq, Int.reduceNe, Int.reduceBEq, Int.reduceBNe, Int.reduceAdd, Int.reduceSub, Int.natCast_nonneg, Bool.false_eq_true, Bool.true_eq_false, eq_self]; try rfl) (fun _ => rfl), trivial⟩ (by first | trivial | exact ⟨FzO.keep rfl (by simp -implicitDefEqProofs only [go_sem, ↓reduceIte, Nat.reduceEqDiff, Nat.reduceLT, Nat.reduceLeDiff, Nat.reduceAdd, Nat.reduceMul, Nat.reduceSub, Nat.reduceBEq, Int.reduceToNat, Int.reduceLT, Int.reduceLE, Int.reduceEq, Int.reduceNe, Int.reduceBEq, Int.reduceBNe, Int.reduceAdd, Int.reduceSub, Int.natCast_nonneg, Bool.false_eq_true, Bool.true_eq_false, eq_self]; try rfl), trivial⟩) ?_
  refine CallA.pure hG (by kernel_rfl) ?_
  simp -implicitDefEqProofs only [go_sem, ↓reduceIte, Nat.reduceEqDiff, Nat.reduceLT, Nat.reduceLeDiff, Nat.reduceAdd, Nat.reduceMul, Nat.reduceSub, Nat.reduceBEq, Int.reduceToNat, Int.reduceLT, Int.reduceLE, Int.reduceEq, Int.reduceNe, Int.reduceBEq, Int.reduceBNe, Int.reduceAdd, Int.reduceSub, Int.natCast_nonneg, Bool.false_eq_true, Bool.true_eq_false, eq_self, List.map_cons, List.map_nil]
  refine (inOrder_spec G hG _ _ _ (.mk false [grownS (leafN 3 3), .nil, grownS (allP 1 [leafN 4 1, leafN 5 4])]) (by decide) (by decide) (by decide) (allOk (by decide) (by decide))).mono ?_
  rintro _ _ rfl
  simp -implicitDefEqProofs only [go_sem, ↓reduceIte, Nat.reduceEqDiff, Nat.reduceLT, Nat.reduceLeDiff, Nat.reduceAdd, Nat.reduceMul, Nat.reduceSub, Nat.reduceBEq, Int.reduceToNat, Int.reduceLT, Int.reduceLE, Int.reduceEq, Int.reduceNe, Int.reduceBEq, Int.reduceBNe, Int.reduceAdd, Int.reduceSub, Int.natCast_nonneg, Bool.false_eq_true, Bool.true_eq_false, eq_self]
  have eT : allP 1 [leafN 3 3, [], allP 1 [leafN 4 1, leafN 5 4]] = wT := rfl
  simp -implicitDefEqProofs only [go_sem, ↓reduceIte, Nat.reduceEqDiff, Nat.reduceLT, Nat.reduceLeDiff, Nat.reduceAdd, Nat.reduceMul, Nat.reduceSub, Nat.reduceBEq, Int.reduceToNat, Int.reduceLT, Int.reduceLE, Int.reduceEq, Int.reduceNe, Int.reduceBEq, Int.reduceBNe, Int.reduceAdd, Int.reduceSub, Int.natCast_nonneg, Bool.false_eq_true, Bool.true_eq_false, eq_self, List.map_cons, List.map_nil, eT]
  intro g1
  refine hK _ ?_
  clear hK K
  refine AW.seq_k fun K hK => AW.region (by kernel_rfl) ?_
  simp -implicitDefEqProofs only [go_sem, ↓reduceIte, Nat.reduceEqDiff, Nat.reduceLT, Nat.reduceLeDiff, Nat.reduceAdd, Nat.reduceMul, Nat.reduceSub, Nat.reduceBEq, Int.reduceToNat, Int.reduceLT, Int.reduceLE, Int.reduceEq, Int.reduceNe, Int.reduceBEq, Int.reduceBNe, Int.reduceAdd, Int.reduceSub, Int.natCast_nonneg, Bool.false_eq_true, Bool.true_eq_false, eq_self]
  refine CallA.pure hG (by kernel_rfl) ?_
  simp -implicitDefEqProofs only [go_sem, ↓reduceIte, Nat.reduceEqDiff, Nat.reduceLT, Nat.reduceLeDiff, Nat.reduceAdd, Nat.reduceMul, Nat.reduceSub, Nat.reduceBEq, Int.reduceToNat, Int.reduceLT, Int.reduceLE, Int.reduceEq, Int.reduceNe, Int.reduceBEq, Int.reduceBNe, Int.reduceAdd, Int.reduceSub, Int.natCast_nonneg, Bool.false_eq_true, Bool.true_eq_false, eq_self, List.map_cons, List.map_nil]
  refine (leaf_spec G hG 3 3).mono ?_
  rintro _ _ rfl
  simp -implicitDefEqProofs only [go_sem, ↓reduceIte, Nat.reduceEqDiff, Nat.reduceLT, Nat.reduceLeDiff, Nat.reduceAdd, Nat.reduceMul, Nat.reduceSub, Nat.reduceBEq, Int.reduceToNat, Int.reduceLT, Int.reduceLE, Int.reduceEq, Int.reduceNe, Int.reduceBEq, Int.reduceBNe, Int.reduceAdd, Int.reduceSub, Int.natCast_nonneg, Bool.false_eq_true, Bool.true_eq_false, eq_self]
  refine CallA.pure hG (by kernel_rfl) ?_
  simp -implicitDefEqProofs only [go_sem, ↓reduceIte, Nat.reduceEqDiff, Nat.reduceLT, Nat.reduceLeDiff, Nat.reduceAdd, Nat.reduceMul, Nat.reduceSub, Nat.reduceBEq, Int.reduceToNat, Int.reduceLT, Int.reduceLE, Int.reduceEq, Int.reduceNe, Int.reduceBEq, Int.reduceBNe, Int.reduceAdd, Int.reduceSub, Int.natCast_nonneg, Bool.false_eq_true, Bool.true_eq_false, eq_self, List.map_cons, List.map_nil]
  refine (leaf_spec G hG 3 6).mono ?_
  rintro _ _ rfl
  simp -implicitDefEqProofs only [go_sem, ↓reduceIte, Nat.reduceEqDiff, Nat.reduceLT, Nat.reduceLeDiff, Nat.reduceAdd, Nat.reduceMul, Nat.reduceSub, Nat.reduceBEq, Int.reduceToNat, Int.reduceLT, Int.reduceLE, Int.reduceEq, Int.reduceNe, Int.reduceBEq, Int.reduceBNe, Int.reduceAdd, Int.reduceSub, Int.natCast_nonneg, Bool.false_eq_true, Bool.true_eq_false, eq_self]
  intro g14
  refine CallA.frzL (fun o => o == 14) [encSl .new 1 (encTree .new .new) (.mk false [grownS (leafN 3 3), grownS (leafN 3 6)])] [(1, .cells .new g1 0 [encSl .new 3 (encNd .new) (grownS wT)])] ⟨Fz.sl (f := encTree .new .new) (l := [grownS (leafN 3 3), grownS (leafN 3 6)]) (g := g14) (fz := 0) (c := .new) rfl (by simp -implicitDefEqProofs only [go_sem, ↓reduceIte, Nat.reduceEqDiff, Nat.reduceLT, Nat.reduceLeDiff, Nat.reduceAdd, Nat.reduceMul, Nat.reduceSub, Nat.reduceBEq, Int.reduceToNat, Int.reduceLT, Int.reduceLE, Int.reduceEq, Int.reduceNe, Int.reduceBEq, Int.reduceBNe, Int.reduceAdd, Int.reduceSub, Int.natCast_nonneg, Bool.false_eq_true, Bool.true_eq_false, eq_self]; try rfl) (fun _ => rfl), trivial⟩ (by first | trivial | exact ⟨FzO.keep rfl (by simp -implicitDefEqProofs only [go_sem, ↓reduceIte, Nat.reduceEqDiff, Nat.reduceLT, Nat.reduceLeDiff, Nat.reduceAdd, Nat.reduceMul, Nat.reduceSub, Nat.reduceBEq, Int.reduceToNat, Int.reduceLT, Int.reduceLE, Int.reduceEq, Int.reduceNe, Int.reduceBEq, Int.reduceBNe, Int.reduceAdd, Int.reduceSub, Int.natCast_nonneg, Bool.false_eq_true, Bool.true_eq_false, eq_self]; try rfl), trivial⟩) ?_
  refine CallA.pure hG (by kernel_rfl) ?_
  simp -implicitDefEqProofs only [go_sem, ↓reduceIte, Nat.reduceEqDiff, Nat.reduceLT, Nat.reduceLeDiff, Nat.reduceAdd, Nat.reduceMul, Nat.reduceSub, Nat.reduceBEq, Int.reduceToNat, Int.reduceLT, Int.reduceLE, Int.reduceEq, Int.reduceNe, Int.reduceBEq, Int.reduceBNe, Int.reduceAdd, Int.reduceSub, Int.natCast_nonneg, Bool.false_eq_true, Bool.true_eq_false, eq_self, List.map_cons, List.map_nil]
  refine (beside_spec G hG _ _ _ (.mk false [grownS (leafN 3 3), grownS (leafN 3 6)]) (by decide) (by decide) (by decide) (allOk (by decide) (by decide))).mono ?_
  rintro _ _ rfl
  simp -implicitDefEqProofs only [go_sem, ↓reduceIte, Nat.reduceEqDiff, Nat.reduceLT, Nat.reduceLeDiff, Nat.reduceAdd, Nat.reduceMul, Nat.reduceSub, Nat.reduceBEq, Int.reduceToNat, Int.reduceLT, Int.reduceLE, Int.reduceEq, Int.reduceNe, Int.reduceBEq, Int.reduceBNe, Int.reduceAdd, Int.reduceSub, Int.natCast_nonneg, Bool.false_eq_true, Bool.true_eq_false, eq_self]
  refine CallA.pure hG (by kernel_rfl) ?_
  simp -implicitDefEqProofs only [go_sem, ↓reduceIte, Nat.reduceEqDiff, Nat.reduceLT, Nat.reduceLeDiff, Nat.reduceAdd, Nat.reduceMul, Nat.reduceSub, Nat.reduceBEq, Int.reduceToNat, Int.reduceLT, Int.reduceLE, Int.reduceEq, Int.reduceNe, Int.reduceBEq, Int.reduceBNe, Int.reduceAdd, Int.reduceSub, Int.natCast_nonneg, Bool.false_eq_true, Bool.true_eq_false, eq_self, List.map_cons, List.map_nil]
  refine (leaf_spec G hG 3 1).mono ?_
  rintro _ _ rfl
  simp -implicitDefEqProofs only [go_sem, ↓reduceIte, Nat.reduceEqDiff, Nat.reduceLT, Nat.reduceLeDiff, Nat.reduceAdd, Nat.reduceMul, Nat.reduceSub, Nat.reduceBEq, Int.reduceToNat, Int.reduceLT, Int.reduceLE, Int.reduceEq, Int.reduceNe, Int.reduceBEq, Int.reduceBNe, Int.reduceAdd, Int.reduceSub, Int.natCast_nonneg, Bool.false_eq_true, Bool.true_eq_false, eq_self]
  intro g17
  refine CallA.frzL (fun o => o == 17) [encSl .new 1 (encTree .new .new) (.mk false [grownS (allP 2 [leafN 3 3, leafN 3 6]), grownS (leafN 3 1)])] [(1, .cells .new g1 0 [encSl .new 3 (encNd .new) (grownS wT)])] ⟨Fz.sl (f := encTree .new .new) (l := [grownS (allP 2 [leafN 3 3, leafN 3 6]), grownS (leafN 3 1)]) (g := g17) (fz := 0) (c := .new) rfl (by simp -implicitDefEqProofs only [go_sem, ↓reduceIte, Nat.reduceEqDiff, Nat.reduceLT, Nat.reduceLeDiff, Nat.reduceAdd, Nat.reduceMul, Nat.reduceSub, Nat.reduceBEq, Int.reduceToNat, Int.reduceLT, Int.reduceLE, Int.reduceEq, Int.reduceNe, Int.reduceBEq, Int.reduceBNe, Int.reduceAdd, Int.reduceSub, Int.natCast_nonneg, Bool.false_eq_true, Bool.true_eq_false, eq_self]; try rfl) (fun _ => rfl), trivial⟩ (by first | trivial | exact ⟨FzO.keep rfl (by simp -implicitDefEqProofs only [go_sem, ↓reduceIte, Nat.reduceEqDiff, Nat.reduceLT, Nat.reduceLeDiff, Nat.reduceAdd, Nat.reduceMul, Nat.reduceSub, Nat.reduceBEq, Int.reduceToNat, Int.reduceLT, Int.reduceLE, Int.reduceEq, Int.reduceNe, Int.reduceBEq, Int.reduceBNe, Int.reduceAdd, Int.reduceSub, Int.natCast_nonneg, Bool.false_eq_true, Bool.true_eq_false, eq_self]; try rfl), trivial⟩) ?_
  refine CallA.pure hG (by kernel_rfl) ?_
  simp -implicitDefEqProofs only [go_sem, ↓reduceIte, Nat.reduceEqDiff, Nat.reduceLT, Nat.reduceLeDiff, Nat.reduceAdd, Nat.reduceMul, Nat.reduceSub, Nat.reduceBEq, Int.reduceToNat, Int.reduceLT, Int.reduceLE, Int.reduceEq, Int.reduceNe, Int.reduceBEq, Int.reduceBNe, Int.reduceAdd, Int.reduceSub, Int.natCast_nonneg, Bool.false_eq_true, Bool.true_eq_false, eq_self, List.map_cons, List.map_nil]
  refine (inOrder_spec G hG _ _ _ (.mk false [grownS (allP 2 [leafN 3 3, leafN 3 6]), grownS (leafN 3 1)]) (by decide) (by decide) (by decide) (allOk (by decide) (by decide))).mono ?_
  rintro _ _ rfl
  simp -implicitDefEqProofs only [go_sem, ↓reduceIte, Nat.reduceEqDiff, Nat.reduceLT, Nat.reduceLeDiff, Nat.reduceAdd, Nat.reduceMul, Nat.reduceSub, Nat.reduceBEq, Int.reduceToNat, Int.reduceLT, Int.reduceLE, Int.reduceEq, Int.reduceNe, Int.reduceBEq, Int.reduceBNe, Int.reduceAdd, Int.reduceSub, Int.natCast_nonneg, Bool.false_eq_true, Bool.true_eq_false, eq_self]
  have eU : allP 1 [allP 2 [leafN 3 3, leafN 3 6], leafN 3 1] = wU := rfl
  simp -implicitDefEqProofs only [go_sem, ↓reduceIte, Nat.reduceEqDiff, Nat.reduceLT, Nat.reduceLeDiff, Nat.reduceAdd, Nat.reduceMul, Nat.reduceSub, Nat.reduceBEq, Int.reduceToNat, Int.reduceLT, Int.reduceLE, Int.reduceEq, Int.reduceNe, Int.reduceBEq, Int.reduceBNe, Int.reduceAdd, Int.reduceSub, Int.natCast_nonneg, Bool.false_eq_true, Bool.true_eq_false, eq_self, List.map_cons, List.map_nil, eU]
  intro g2
  refine hK _ ?_
  clear hK K
  refine AW.seq_k fun K hK => AW.region (by kernel_rfl) ?_
  simp -implicitDefEqProofs only [go_sem, ↓reduceIte, Nat.reduceEqDiff, Nat.reduceLT, Nat.reduceLeDiff, Nat.reduceAdd, Nat.reduceMul, Nat.reduceSub, Nat.reduceBEq, Int.reduceToNat, Int.reduceLT, Int.reduceLE, Int.reduceEq, Int.reduceNe, Int.reduceBEq, Int.reduceBNe, Int.reduceAdd, Int.reduceSub, Int.natCast_nonneg, Bool.false_eq_true, Bool.true_eq_false, eq_self]
  refine CallA.pure hG (by kernel_rfl) ?_
  simp -implicitDefEqProofs only [go_sem, ↓reduceIte, Nat.reduceEqDiff, Nat.reduceLT, Nat.reduceLeDiff, Nat.reduceAdd, Nat.reduceMul, Nat.reduceSub, Nat.reduceBEq, Int.reduceToNat, Int.reduceLT, Int.reduceLE, Int.reduceEq, Int.reduceNe, Int.reduceBEq, Int.reduceBNe, Int.reduceAdd, Int.reduceSub, Int.natCast_nonneg, Bool.false_eq_true, Bool.true_eq_false, eq_self, List.map_cons, List.map_nil]
  refine (take_spec G hG _ _ .old .old (grownS wU) 0 .nil (by decide) (by decide) (by decide) (by decide) (by decide) (takeOk_all (by decide))).mono ?_
  rintro _ _ rfl
  have eV : takeP wU 0 [] = wV := rfl
  simp -implicitDefEqProofs only [go_sem, ↓reduceIte, Nat.reduceEqDiff, Nat.reduceLT, Nat.reduceLeDiff, Nat.reduceAdd, Nat.reduceMul, Nat.reduceSub, Nat.reduceBEq, Int.reduceToNat, Int.reduceLT, Int.reduceLE, Int.reduceEq, Int.reduceNe, Int.reduceBEq, Int.reduceBNe, Int.reduceAdd, Int.reduceSub, Int.natCast_nonneg, Bool.false_eq_true, Bool.true_eq_false, eq_self, grownS_l, eV]
  intro g3
  refine hK _ ?_
  clear hK K
  have hTl : (wT.length : Int) = 4 := rfl
  have hT3 : wT[3]? = some ⟨1, 0, .mk false [0, 1, 2]⟩ := rfl
  have hVl : (wV.length : Int) = 3 := rfl
  have hV0 : wV[0]? = some ⟨3, 6, .mk false []⟩ := rfl
  have hU : readyP wU = [0, 1] := rfl
  have hV : readyP wV = [0] := rfl
  have b4 : ((4 : Int) == 4) = true := rfl
  have b3 : ((3 : Int) == 3) = true := rfl
  have b1 : ((1 : Int) == 1) = true := rfl
  have b6 : ((6 : Int) == 6) = true := rfl
  have i012 : ([0, 1, 2] : List Int).length = 3 := rfl
  refine AW.seq_k fun K hK => AW.region (by kernel_rfl) ?_
  simp -implicitDefEqProofs only [go_sem, ↓reduceIte, Nat.reduceEqDiff, Nat.reduceLT, Nat.reduceLeDiff, Nat.reduceAdd, Nat.reduceMul, Nat.reduceSub, Nat.reduceBEq, Int.reduceToNat, Int.reduceLT, Int.reduceLE, Int.reduceEq, Int.reduceNe, Int.reduceBEq, Int.reduceBNe, Int.reduceAdd, Int.reduceSub, Int.natCast_nonneg, Bool.false_eq_true, Bool.true_eq_false, eq_self, hTl, hT3, b4, b1]
  intro g40
  refine CallA.bor hG [encSl .old 1 (V.int .i64) (.mk false [0, 1, 2]), encSl .old 1 (V.int .i64) (.mk false [0, 1, 2])] (by kernel_rfl) ⟨Rd.im (Im.ints _) (by simp -implicitDefEqProofs only [go_sem, ↓reduceIte, Nat.reduceEqDiff, Nat.reduceLT, Nat.reduceLeDiff, Nat.reduceAdd, Nat.reduceMul, Nat.reduceSub, Nat.reduceBEq, Int.reduceToNat, Int.reduceLT, Int.reduceLE, Int.reduceEq, Int.reduceNe, Int.reduceBEq, Int.reduceBNe, Int.reduceAdd, Int.reduceSub, Int.natCast_nonneg, Bool.false_eq_true, Bool.true_eq_false, eq_self]; try rfl), Rd.msl (off := 0) (n := 3) (l := [0, 1, 2]) (f := V.int .i64) (f' := V.int .i64) (g := g40) (fz := 0) (c := .new) (by simp -implicitDefEqProofs only [go_sem, ↓reduceIte, Nat.reduceEqDiff, Nat.reduceLT, Nat.reduceLeDiff, Nat.reduceAdd, Nat.reduceMul, Nat.reduceSub, Nat.reduceBEq, Int.reduceToNat, Int.reduceLT, Int.reduceLE, Int.reduceEq, Int.reduceNe, Int.reduceBEq, Int.reduceBNe, Int.reduceAdd, Int.reduceSub, Int.natCast_nonneg, Bool.false_eq_true, Bool.true_eq_false, eq_self]; try rfl) (fun _ => rfl) im_int (fun _ => rfl) (by decide), trivial⟩ ?_
  refine (sameInts_spec G hG _ _ (.mk false [0, 1, 2]) (.mk false [0, 1, 2]) (by decide) (by decide)).mono ?_
  rintro _ _ rfl
  refine ⟨.bool _, ?_⟩
  have c1 : ((Sl.mk false ([0, 1, 2] : List Int)).l == (Sl.mk false ([0, 1, 2] : List Int)).l) = true := rfl
  rw [c1]
  simp -implicitDefEqProofs only [go_sem, ↓reduceIte, Nat.reduceEqDiff, Nat.reduceLT, Nat.reduceLeDiff, Nat.reduceAdd, Nat.reduceMul, Nat.reduceSub, Nat.reduceBEq, Int.reduceToNat, Int.reduceLT, Int.reduceLE, Int.reduceEq, Int.reduceNe, Int.reduceBEq, Int.reduceBNe, Int.reduceAdd, Int.reduceSub, Int.natCast_nonneg, Bool.false_eq_true, Bool.true_eq_false, eq_self]
  refine CallA.pure hG (by kernel_rfl) ?_
  simp -implicitDefEqProofs only [go_sem, ↓reduceIte, Nat.reduceEqDiff, Nat.reduceLT, Nat.reduceLeDiff, Nat.reduceAdd, Nat.reduceMul, Nat.reduceSub, Nat.reduceBEq, Int.reduceToNat, Int.reduceLT, Int.reduceLE, Int.reduceEq, Int.reduceNe, Int.reduceBEq, Int.reduceBNe, Int.reduceAdd, Int.reduceSub, Int.natCast_nonneg, Bool.false_eq_true, Bool.true_eq_false, eq_self]
  refine (ready_spec G hG _ _ (grownS wU) (by decide) (by decide) (by decide)).mono ?_
  rintro _ _ rfl
  simp -implicitDefEqProofs only [go_sem, ↓reduceIte, Nat.reduceEqDiff, Nat.reduceLT, Nat.reduceLeDiff, Nat.reduceAdd, Nat.reduceMul, Nat.reduceSub, Nat.reduceBEq, Int.reduceToNat, Int.reduceLT, Int.reduceLE, Int.reduceEq, Int.reduceNe, Int.reduceBEq, Int.reduceBNe, Int.reduceAdd, Int.reduceSub, Int.natCast_nonneg, Bool.false_eq_true, Bool.true_eq_false, eq_self, hU]
  intro g46
  refine CallA.bor hG [encSl .any 1 (V.int .i64) (grownS [0, 1]), encSl .old 1 (V.int .i64) (.mk false [0, 1])] (by kernel_rfl) ⟨Rd.im (Im.ints _) (by simp -implicitDefEqProofs only [go_sem, ↓reduceIte, Nat.reduceEqDiff, Nat.reduceLT, Nat.reduceLeDiff, Nat.reduceAdd, Nat.reduceMul, Nat.reduceSub, Nat.reduceBEq, Int.reduceToNat, Int.reduceLT, Int.reduceLE, Int.reduceEq, Int.reduceNe, Int.reduceBEq, Int.reduceBNe, Int.reduceAdd, Int.reduceSub, Int.natCast_nonneg, Bool.false_eq_true, Bool.true_eq_false, eq_self]; try rfl), Rd.msl (off := 0) (n := 2) (l := [0, 1]) (f := V.int .i64) (f' := V.int .i64) (g := g46) (fz := 0) (c := .new) (by simp -implicitDefEqProofs only [go_sem, ↓reduceIte, Nat.reduceEqDiff, Nat.reduceLT, Nat.reduceLeDiff, Nat.reduceAdd, Nat.reduceMul, Nat.reduceSub, Nat.reduceBEq, Int.reduceToNat, Int.reduceLT, Int.reduceLE, Int.reduceEq, Int.reduceNe, Int.reduceBEq, Int.reduceBNe, Int.reduceAdd, Int.reduceSub, Int.natCast_nonneg, Bool.false_eq_true, Bool.true_eq_false, eq_self]; try rfl) (fun _ => rfl) im_int (fun _ => rfl) (by decide), trivial⟩ ?_
  refine (sameInts_spec G hG _ _ (grownS [0, 1]) (.mk false [0, 1]) (by decide) (by decide)).mono ?_
  rintro _ _ rfl
  refine ⟨.bool _, ?_⟩
  have c2 : ((grownS ([0, 1] : List Int)).l == (Sl.mk false ([0, 1] : List Int)).l) = true := rfl
  rw [c2]
  simp -implicitDefEqProofs only [go_sem, ↓reduceIte, Nat.reduceEqDiff, Nat.reduceLT, Nat.reduceLeDiff, Nat.reduceAdd, Nat.reduceMul, Nat.reduceSub, Nat.reduceBEq, Int.reduceToNat, Int.reduceLT, Int.reduceLE, Int.reduceEq, Int.reduceNe, Int.reduceBEq, Int.reduceBNe, Int.reduceAdd, Int.reduceSub, Int.natCast_nonneg, Bool.false_eq_true, Bool.true_eq_false, eq_self]
  refine CallA.pure hG (by kernel_rfl) ?_
  simp -implicitDefEqProofs only [go_sem, ↓reduceIte, Nat.reduceEqDiff, Nat.reduceLT, Nat.reduceLeDiff, Nat.reduceAdd, Nat.reduceMul, Nat.reduceSub, Nat.reduceBEq, Int.reduceToNat, Int.reduceLT, Int.reduceLE, Int.reduceEq, Int.reduceNe, Int.reduceBEq, Int.reduceBNe, Int.reduceAdd, Int.reduceSub, Int.natCast_nonneg, Bool.false_eq_true, Bool.true_eq_false, eq_self]
  refine (ready_spec G hG _ _ (grownS wV) (by decide) (by decide) (by decide)).mono ?_
  rintro _ _ rfl
  simp -implicitDefEqProofs only [go_sem, ↓reduceIte, Nat.reduceEqDiff, Nat.reduceLT, Nat.reduceLeDiff, Nat.reduceAdd, Nat.reduceMul, Nat.reduceSub, Nat.reduceBEq, Int.reduceToNat, Int.reduceLT, Int.reduceLE, Int.reduceEq, Int.reduceNe, Int.reduceBEq, Int.reduceBNe, Int.reduceAdd, Int.reduceSub, Int.natCast_nonneg, Bool.false_eq_true, Bool.true_eq_false, eq_self, hV]
  intro g52
  refine CallA.bor hG [encSl .any 1 (V.int .i64) (grownS [0]), encSl .old 1 (V.int .i64) (.mk false [0])] (by kernel_rfl) ⟨Rd.im (Im.ints _) (by simp -implicitDefEqProofs only [go_sem, ↓reduceIte, Nat.reduceEqDiff, Nat.reduceLT, Nat.reduceLeDiff, Nat.reduceAdd, Nat.reduceMul, Nat.reduceSub, Nat.reduceBEq, Int.reduceToNat, Int.reduceLT, Int.reduceLE, Int.reduceEq, Int.reduceNe, Int.reduceBEq, Int.reduceBNe, Int.reduceAdd, Int.reduceSub, Int.natCast_nonneg, Bool.false_eq_true, Bool.true_eq_false, eq_self]; try rfl), Rd.msl (off := 0) (n := 1) (l := [0]) (f := V.int .i64) (f' := V.int .i64) (g := g52) (fz := 0) (c := .new) (by simp -implicitDefEqProofs only [go_sem, ↓reduceIte, Nat.reduceEqDiff, Nat.reduceLT, Nat.reduceLeDiff, Nat.reduceAdd, Nat.reduceMul, Nat.reduceSub, Nat.reduceBEq, Int.reduceToNat, Int.reduceLT, Int.reduceLE, Int.reduceEq, Int.reduceNe, Int.reduceBEq, Int.reduceBNe, Int.reduceAdd, Int.reduceSub, Int.natCast_nonneg, Bool.false_eq_true, Bool.true_eq_false, eq_self]; try rfl) (fun _ => rfl) im_int (fun _ => rfl) (by decide), trivial⟩ ?_
  refine (sameInts_spec G hG _ _ (grownS [0]) (.mk false [0]) (by decide) (by decide)).mono ?_
  rintro _ _ rfl
  refine ⟨.bool _, ?_⟩
  have c3 : ((grownS ([0] : List Int)).l == (Sl.mk false ([0] : List Int)).l) = true := rfl
  rw [c3]
  simp -implicitDefEqProofs only [go_sem, ↓reduceIte, Nat.reduceEqDiff, Nat.reduceLT, Nat.reduceLeDiff, Nat.reduceAdd, Nat.reduceMul, Nat.reduceSub, Nat.reduceBEq, Int.reduceToNat, Int.reduceLT, Int.reduceLE, Int.reduceEq, Int.reduceNe, Int.reduceBEq, Int.reduceBNe, Int.reduceAdd, Int.reduceSub, Int.natCast_nonneg, Bool.false_eq_true, Bool.true_eq_false, eq_self, hVl, hV0, b3, b6]
  refine hK _ ?_
  clear hK K
  refine AW.ret ?_
  simp -implicitDefEqProofs only [go_sem, ↓reduceIte, Nat.reduceEqDiff, Nat.reduceLT, Nat.reduceLeDiff, Nat.reduceAdd, Nat.reduceMul, Nat.reduceSub, Nat.reduceBEq, Int.reduceToNat, Int.reduceLT, Int.reduceLE, Int.reduceEq, Int.reduceNe, Int.reduceBEq, Int.reduceBNe, Int.reduceAdd, Int.reduceSub, Int.natCast_nonneg, Bool.false_eq_true, Bool.true_eq_false, eq_self]
  refine endK_some ?_
  rfl
end Go.Hs
end

section
namespace Go.Hs
open Go.Proofs
set_option maxRecDepth 10000

theorem few_spec (G : Nat → V) (hG : GOk G) (c1 c2 : Col) (t : Sl Nd) :
    Spec Try.prog G 6 [encTree c1 c2 t] hNone (fun v _ => v = .bool (fewP t.l)) := by
  refine Spec.of_code' 0 23 [.tmp 2] Try.func6 rfl rfl rfl rfl fun X => ?_
  refine AW.seq_k fun K hK => AW.region (by kernel_rfl) ?_
  simp -implicitDefEqProofs only [go_sem, ↓reduceIte, Nat.reduceEqDiff, Nat.reduceLT, Nat.reduceLeDiff, Nat.reduceAdd, Nat.reduceMul, Nat.reduceSub, Nat.reduceBEq, Int.reduceToNat, Int.reduceLT, Int.reduceLE, Int.reduceEq, Int.reduceNe, Int.reduceBEq, Int.reduceBNe, Int.reduceAdd, Int.reduceSub, Int.natCast_nonneg, Bool.false_eq_true, Bool.true_eq_false, eq_self]
  intro g
  refine hK _ ?_
  clear hK K
  refine AW.seq_k fun K hK => ?_
  refine AW.seq_k fun K hK => AW.region (by kernel_rfl) ?_
  simp -implicitDefEqProofs only [go_sem, ↓reduceIte, Nat.reduceEqDiff, Nat.reduceLT, Nat.reduceLeDiff, Nat.reduceAdd, Nat.reduceMul, Nat.reduceSub, Nat.reduceBEq, Int.reduceToNat, Int.reduceLT, Int.reduceLE, Int.reduceEq, Int.reduceNe, Int.reduceBEq, Int.reduceBNe, Int.reduceAdd, Int.reduceSub, Int.natCast_nonneg, Bool.false_eq_true, Bool.true_eq_false, eq_self]
  refine hK _ ?_
  clear hK K
  refine AW.condS (by simp -implicitDefEqProofs only [go_sem, ↓reduceIte, Nat.reduceEqDiff, Nat.reduceLT, Nat.reduceLeDiff, Nat.reduceAdd, Nat.reduceMul, Nat.reduceSub, Nat.reduceBEq, Int.reduceToNat, Int.reduceLT, Int.reduceLE, Int.reduceEq, Int.reduceNe, Int.reduceBEq, Int.reduceBNe, Int.reduceAdd, Int.reduceSub, Int.natCast_nonneg, Bool.false_eq_true, Bool.true_eq_false, eq_self]; rfl) (fun h => ?_) (fun h => ?_)
  · refine AW.seq_k fun K hK => AW.region (by kernel_rfl) ?_
    simp -implicitDefEqProofs only [go_sem, ↓reduceIte, Nat.reduceEqDiff, Nat.reduceLT, Nat.reduceLeDiff, Nat.reduceAdd, Nat.reduceMul, Nat.reduceSub, Nat.reduceBEq, Int.reduceToNat, Int.reduceLT, Int.reduceLE, Int.reduceEq, Int.reduceNe, Int.reduceBEq, Int.reduceBNe, Int.reduceAdd, Int.reduceSub, Int.natCast_nonneg, Bool.false_eq_true, Bool.true_eq_false, eq_self]
    refine hK _ ?_
    clear hK K
    refine AW.ret ?_
    simp -implicitDefEqProofs only [go_sem, ↓reduceIte, Nat.reduceEqDiff, Nat.reduceLT, Nat.reduceLeDiff, Nat.reduceAdd, Nat.reduceMul, Nat.reduceSub, Nat.reduceBEq, Int.reduceToNat, Int.reduceLT, Int.reduceLE, Int.reduceEq, Int.reduceNe, Int.reduceBEq, Int.reduceBNe, Int.reduceAdd, Int.reduceSub, Int.natCast_nonneg, Bool.false_eq_true, Bool.true_eq_false, eq_self]
    refine endK_some ?_
    simp at h ⊢
    simp [fewP]; omega
  refine AW.skip ?_
  simp -implicitDefEqProofs only [go_sem, ↓reduceIte, Nat.reduceEqDiff, Nat.reduceLT, Nat.reduceLeDiff, Nat.reduceAdd, Nat.reduceMul, Nat.reduceSub, Nat.reduceBEq, Int.reduceToNat, Int.reduceLT, Int.reduceLE, Int.reduceEq, Int.reduceNe, Int.reduceBEq, Int.reduceBNe, Int.reduceAdd, Int.reduceSub, Int.natCast_nonneg, Bool.false_eq_true, Bool.true_eq_false, eq_self]
  refine hK _ ?_
  clear hK K
  have hl : t.l.length ≤ 60 := by simp at h; omega
  refine AW.seq_k fun K1 hK1 => ?_
  refine AW.seq_k fun K hK => AW.region (by kernel_rfl) ?_
  simp -implicitDefEqProofs only [go_sem, ↓reduceIte, Nat.reduceEqDiff, Nat.reduceLT, Nat.reduceLeDiff, Nat.reduceAdd, Nat.reduceMul, Nat.reduceSub, Nat.reduceBEq, Int.reduceToNat, Int.reduceLT, Int.reduceLE, Int.reduceEq, Int.reduceNe, Int.reduceBEq, Int.reduceBNe, Int.reduceAdd, Int.reduceSub, Int.natCast_nonneg, Bool.false_eq_true, Bool.true_eq_false, eq_self]
  refine hK _ ?_
  clear hK K
  refine AW.block ?_
  refine AW.for t.l.length (fun k (_ : Unit) => st [(1, .ptr 1 g 0), (3, .int .i64 k)] [(1, .cells .new g 0 [encSl c1 3 (encNd c2) t])]) (fun k _ => (t.l.take k).all (fun n => decide (n.kids.l.length ≤ 20)) = true) 0 () (Nat.zero_le _) (by simp)
    (Weak.st (by simp -implicitDefEqProofs only [go_sem, ↓reduceIte, Nat.reduceEqDiff, Nat.reduceLT, Nat.reduceLeDiff, Nat.reduceAdd, Nat.reduceMul, Nat.reduceSub, Nat.reduceBEq, Int.reduceToNat, Int.reduceLT, Int.reduceLE, Int.reduceEq, Int.reduceNe, Int.reduceBEq, Int.reduceBNe, Int.reduceAdd, Int.reduceSub, Int.natCast_nonneg, Bool.false_eq_true, Bool.true_eq_false, eq_self]; simp) (by simp -implicitDefEqProofs only [go_sem, ↓reduceIte, Nat.reduceEqDiff, Nat.reduceLT, Nat.reduceLeDiff, Nat.reduceAdd, Nat.reduceMul, Nat.reduceSub, Nat.reduceBEq, Int.reduceToNat, Int.reduceLT, Int.reduceLE, Int.reduceEq, Int.reduceNe, Int.reduceBEq, Int.reduceBNe, Int.reduceAdd, Int.reduceSub, Int.natCast_nonneg, Bool.false_eq_true, Bool.true_eq_false, eq_self])) ?_
  intro k _ hk hR L hL
  refine AW.seq_k fun K2 hK2 => ?_
  refine AW.seq_k fun K hK => AW.region (by kernel_rfl) ?_
  simp -implicitDefEqProofs only [go_sem, ↓reduceIte, Nat.reduceEqDiff, Nat.reduceLT, Nat.reduceLeDiff, Nat.reduceAdd, Nat.reduceMul, Nat.reduceSub, Nat.reduceBEq, Int.reduceToNat, Int.reduceLT, Int.reduceLE, Int.reduceEq, Int.reduceNe, Int.reduceBEq, Int.reduceBNe, Int.reduceAdd, Int.reduceSub, Int.natCast_nonneg, Bool.false_eq_true, Bool.true_eq_false, eq_self]
  refine hK _ ?_
  clear hK K
  refine AW.condS (by simp -implicitDefEqProofs only [go_sem, ↓reduceIte, Nat.reduceEqDiff, Nat.reduceLT, Nat.reduceLeDiff, Nat.reduceAdd, Nat.reduceMul, Nat.reduceSub, Nat.reduceBEq, Int.reduceToNat, Int.reduceLT, Int.reduceLE, Int.reduceEq, Int.reduceNe, Int.reduceBEq, Int.reduceBNe, Int.reduceAdd, Int.reduceSub, Int.natCast_nonneg, Bool.false_eq_true, Bool.true_eq_false, eq_self]; rfl) (fun h2 => ?_) (fun h2 => ?_)
  · refine AW.skip ?_
    simp -implicitDefEqProofs only [go_sem, ↓reduceIte, Nat.reduceEqDiff, Nat.reduceLT, Nat.reduceLeDiff, Nat.reduceAdd, Nat.reduceMul, Nat.reduceSub, Nat.reduceBEq, Int.reduceToNat, Int.reduceLT, Int.reduceLE, Int.reduceEq, Int.reduceNe, Int.reduceBEq, Int.reduceBNe, Int.reduceAdd, Int.reduceSub, Int.natCast_nonneg, Bool.false_eq_true, Bool.true_eq_false, eq_self]
    refine hK2 _ ?_
    clear hK2 K2
    have hk1 : k < t.l.length := by simpa using h2
    refine AW.seq_k fun K2 hK2 => ?_
    refine AW.block ?_
    refine AW.seq_k fun K hK => AW.region (by kernel_rfl) ?_
    simp -implicitDefEqProofs only [go_sem, ↓reduceIte, Nat.reduceEqDiff, Nat.reduceLT, Nat.reduceLeDiff, Nat.reduceAdd, Nat.reduceMul, Nat.reduceSub, Nat.reduceBEq, Int.reduceToNat, Int.reduceLT, Int.reduceLE, Int.reduceEq, Int.reduceNe, Int.reduceBEq, Int.reduceBNe, Int.reduceAdd, Int.reduceSub, Int.natCast_nonneg, Bool.false_eq_true, Bool.true_eq_false, eq_self, List.getElem?_eq_getElem hk1]
    refine hK _ ?_
    clear hK K
    refine AW.condS (by simp -implicitDefEqProofs only [go_sem, ↓reduceIte, Nat.reduceEqDiff, Nat.reduceLT, Nat.reduceLeDiff, Nat.reduceAdd, Nat.reduceMul, Nat.reduceSub, Nat.reduceBEq, Int.reduceToNat, Int.reduceLT, Int.reduceLE, Int.reduceEq, Int.reduceNe, Int.reduceBEq, Int.reduceBNe, Int.reduceAdd, Int.reduceSub, Int.natCast_nonneg, Bool.false_eq_true, Bool.true_eq_false, eq_self]; rfl) (fun h3 => ?_) (fun h3 => ?_)
    · refine AW.seq_k fun K hK => AW.region (by kernel_rfl) ?_
      simp -implicitDefEqProofs only [go_sem, ↓reduceIte, Nat.reduceEqDiff, Nat.reduceLT, Nat.reduceLeDiff, Nat.reduceAdd, Nat.reduceMul, Nat.reduceSub, Nat.reduceBEq, Int.reduceToNat, Int.reduceLT, Int.reduceLE, Int.reduceEq, Int.reduceNe, Int.reduceBEq, Int.reduceBNe, Int.reduceAdd, Int.reduceSub, Int.natCast_nonneg, Bool.false_eq_true, Bool.true_eq_false, eq_self]
      refine hK _ ?_
      clear hK K
      refine AW.ret ?_
      simp -implicitDefEqProofs only [go_sem, ↓reduceIte, Nat.reduceEqDiff, Nat.reduceLT, Nat.reduceLeDiff, Nat.reduceAdd, Nat.reduceMul, Nat.reduceSub, Nat.reduceBEq, Int.reduceToNat, Int.reduceLT, Int.reduceLE, Int.reduceEq, Int.reduceNe, Int.reduceBEq, Int.reduceBNe, Int.reduceAdd, Int.reduceSub, Int.natCast_nonneg, Bool.false_eq_true, Bool.true_eq_false, eq_self]
      refine endK_some ?_
      simp at h3
      refine congrArg V.bool (Eq.symm ?_)
      rw [Bool.eq_false_iff]
      intro e
      simp [fewP] at e
      have := e.2 _ (List.getElem_mem hk1)
      omega
    · refine AW.skip ?_
      simp -implicitDefEqProofs only [go_sem, ↓reduceIte, Nat.reduceEqDiff, Nat.reduceLT, Nat.reduceLeDiff, Nat.reduceAdd, Nat.reduceMul, Nat.reduceSub, Nat.reduceBEq, Int.reduceToNat, Int.reduceLT, Int.reduceLE, Int.reduceEq, Int.reduceNe, Int.reduceBEq, Int.reduceBNe, Int.reduceAdd, Int.reduceSub, Int.natCast_nonneg, Bool.false_eq_true, Bool.true_eq_false, eq_self]
      refine hK2 _ ?_
      clear hK2 K2
      refine AW.region (by kernel_rfl) ?_
      simp -implicitDefEqProofs only [go_sem, ↓reduceIte, Nat.reduceEqDiff, Nat.reduceLT, Nat.reduceLeDiff, Nat.reduceAdd, Nat.reduceMul, Nat.reduceSub, Nat.reduceBEq, Int.reduceToNat, Int.reduceLT, Int.reduceLE, Int.reduceEq, Int.reduceNe, Int.reduceBEq, Int.reduceBNe, Int.reduceAdd, Int.reduceSub, Int.natCast_nonneg, Bool.false_eq_true, Bool.true_eq_false, eq_self]
      refine hL _ ⟨hk1, (), ?_, Weak.st (by simp -implicitDefEqProofs only [go_sem, ↓reduceIte, Nat.reduceEqDiff, Nat.reduceLT, Nat.reduceLeDiff, Nat.reduceAdd, Nat.reduceMul, Nat.reduceSub, Nat.reduceBEq, Int.reduceToNat, Int.reduceLT, Int.reduceLE, Int.reduceEq, Int.reduceNe, Int.reduceBEq, Int.reduceBNe, Int.reduceAdd, Int.reduceSub, Int.natCast_nonneg, Bool.false_eq_true, Bool.true_eq_false, eq_self]; simp; exact w64 (by omega) (by omega)) (by simp -implicitDefEqProofs only [go_sem, ↓reduceIte, Nat.reduceEqDiff, Nat.reduceLT, Nat.reduceLeDiff, Nat.reduceAdd, Nat.reduceMul, Nat.reduceSub, Nat.reduceBEq, Int.reduceToNat, Int.reduceLT, Int.reduceLE, Int.reduceEq, Int.reduceNe, Int.reduceBEq, Int.reduceBNe, Int.reduceAdd, Int.reduceSub, Int.natCast_nonneg, Bool.false_eq_true, Bool.true_eq_false, eq_self])⟩
      rw [List.take_succ_eq_append_getElem hk1, List.all_append, hR]
      simp at h3 ⊢
      omega
  · refine AW.exit ?_
    simp -implicitDefEqProofs only [go_sem, ↓reduceIte, Nat.reduceEqDiff, Nat.reduceLT, Nat.reduceLeDiff, Nat.reduceAdd, Nat.reduceMul, Nat.reduceSub, Nat.reduceBEq, Int.reduceToNat, Int.reduceLT, Int.reduceLE, Int.reduceEq, Int.reduceNe, Int.reduceBEq, Int.reduceBNe, Int.reduceAdd, Int.reduceSub, Int.natCast_nonneg, Bool.false_eq_true, Bool.true_eq_false, eq_self]
    refine hK1 _ ?_
    have hk1 : k = t.l.length := by simp at h2; omega
    refine AW.seq_k fun K hK => AW.region (by kernel_rfl) ?_
    simp -implicitDefEqProofs only [go_sem, ↓reduceIte, Nat.reduceEqDiff, Nat.reduceLT, Nat.reduceLeDiff, Nat.reduceAdd, Nat.reduceMul, Nat.reduceSub, Nat.reduceBEq, Int.reduceToNat, Int.reduceLT, Int.reduceLE, Int.reduceEq, Int.reduceNe, Int.reduceBEq, Int.reduceBNe, Int.reduceAdd, Int.reduceSub, Int.natCast_nonneg, Bool.false_eq_true, Bool.true_eq_false, eq_self]
    refine hK _ ?_
    clear hK K
    refine AW.ret ?_
    simp -implicitDefEqProofs only [go_sem, ↓reduceIte, Nat.reduceEqDiff, Nat.reduceLT, Nat.reduceLeDiff, Nat.reduceAdd, Nat.reduceMul, Nat.reduceSub, Nat.reduceBEq, Int.reduceToNat, Int.reduceLT, Int.reduceLE, Int.reduceEq, Int.reduceNe, Int.reduceBEq, Int.reduceBNe, Int.reduceAdd, Int.reduceSub, Int.natCast_nonneg, Bool.false_eq_true, Bool.true_eq_false, eq_self]
    refine endK_some ?_
    subst hk1
    rw [List.take_length] at hR
    simp only [fewP, hR, Bool.and_true]
    simp; omega
end Go.Hs
end

section
/- What the leaves of a tree sum up to. -/
namespace Go.Hs
mutual
def T.lsum (w : Int → Int → Int) : T → Int
  | .mk op pl k => if op ≥ 3 then w op pl else T.lsums w k
def T.lsums (w : Int → Int → Int) : List T → Int
  | [] => 0
  | p :: r => p.lsum w + T.lsums w r
end
/-- The same over a row. -/
def rowSum (w : Int → Int → Int) : List VN → Int
  | [] => 0
  | x :: r => (if x.1 ≥ 3 then w x.1 x.2.1 else 0) + rowSum w r
theorem rowSum_app (w : Int → Int → Int) : ∀ a b : List VN, rowSum w (a ++ b) = rowSum w a + rowSum w b
  | [], b => by simp [rowSum]
  | x :: r, b => by rw [List.cons_append, rowSum, rowSum, rowSum_app w r b]; omega
mutual
theorem rowSum_tree (w : Int → Int → Int) : ∀ (t : T) (b : Nat), t.good → rowSum w (t.vrow b) = t.lsum w
  | .mk op pl k, b, hg => by
    rw [T.vrow, rowSum_app, T.lsum]
    simp only [rowSum]
    rw [T.good] at hg
    rcases hg with ⟨h1, h2, rfl⟩ | ⟨h1, rfl, h2, h3⟩
    · rw [if_pos h1, if_pos h1]
      simp [T.vrows, rowSum]
    · rw [if_neg (by omega), if_neg (by omega), rowSum_trees w op k b h3]
      omega
theorem rowSum_trees (w : Int → Int → Int) (op : Int) : ∀ (k : List T) (b : Nat), T.goods op k → rowSum w (T.vrows k b) = T.lsums w k
  | [], _, _ => rfl
  | p :: r, b, hg => by
    rw [T.goods] at hg
    rw [T.vrows, rowSum_app, T.lsums, rowSum_tree w p b hg.1, rowSum_trees w op r _ hg.2.2]
end
theorem lsums_app (w : Int → Int → Int) : ∀ a b : List T, T.lsums w (a ++ b) = T.lsums w a + T.lsums w b
  | [], b => by simp [T.lsums]
  | x :: r, b => by rw [List.cons_append, T.lsums, T.lsums, lsums_app w r b]; omega
theorem RowIs.sum (w : Int → Int → Int) {l : List Nd} {t : T} (h : RowIs l t) : rowSum w (l.map Nd.v) = t.lsum w := by
  rcases h with ⟨rfl, rfl⟩ | ⟨h1, h2⟩
  · rfl
  · rw [h2, rowSum_tree w t 0 h1]
/-- Nothing, or a tree. -/
def GZ (t : T) : Prop := t = .zero ∨ t.good
theorem put_goods {op : Int} (hop : op = 1 ∨ op = 2) : ∀ Ts : List T, (∀ t ∈ Ts, GZ t) → T.goods op (Ts.flatMap (putKids op))
  | [], _ => trivial
  | t :: r, h => by
    rw [List.flatMap_cons, goods_app]
    refine ⟨?_, put_goods hop r fun q hq => h q (by simp [hq])⟩
    rcases h t (by simp) with rfl | hg
    · unfold putKids
      rw [if_neg (by show ¬ (0 : Int) = op; omega)]
      exact trivial
    · unfold putKids
      by_cases ho : t.op = op
      · rw [if_pos ho]
        obtain ⟨o, pl, k⟩ := t
        have ho : o = op := ho
        subst ho
        rw [T.good] at hg
        rcases hg with hg | hg
        · omega
        · exact hg.2.2.2
      · rw [if_neg ho, if_neg (T.good_op hg)]
        exact ⟨hg, ho, trivial⟩
theorem put_gz {op : Int} (hop : op = 1 ∨ op = 2) {Ts : List T} (h : ∀ t ∈ Ts, GZ t) : GZ (T.put op Ts) := by
  have h3 := put_goods hop Ts h
  unfold T.put
  generalize Ts.flatMap (putKids op) = ks at h3
  match ks, h3 with
  | [], _ => exact .inl rfl
  | [x], h3 => exact .inr h3.1
  | x :: y :: r, h3 => exact .inr (.inr ⟨hop, rfl, by simp, h3⟩)
theorem lsums_put (w : Int → Int → Int) {op : Int} (hop : op = 1 ∨ op = 2) : ∀ Ts : List T, (∀ t ∈ Ts, GZ t) → T.lsums w (Ts.flatMap (putKids op)) = T.lsums w Ts
  | [], _ => rfl
  | t :: r, h => by
    rw [List.flatMap_cons, lsums_app, T.lsums, lsums_put w hop r fun q hq => h q (by simp [hq])]
    congr 1
    rcases h t (by simp) with rfl | hg
    · unfold putKids
      rw [if_neg (by show ¬ (0 : Int) = op; omega)]
      rfl
    · unfold putKids
      by_cases ho : t.op = op
      · rw [if_pos ho]
        obtain ⟨o, pl, k⟩ := t
        have ho : o = op := ho
        show T.lsums w k = _
        rw [T.lsum, if_neg (by omega)]
      · rw [if_neg ho, if_neg (T.good_op hg)]
        simp [T.lsums]
theorem lsum_put (w : Int → Int → Int) {op : Int} (hop : op = 1 ∨ op = 2) (Ts : List T) (h : ∀ t ∈ Ts, GZ t) : (T.put op Ts).lsum w = T.lsums w Ts := by
  rw [← lsums_put w hop Ts h]
  unfold T.put
  generalize Ts.flatMap (putKids op) = ks
  match ks with
  | [] => rfl
  | [x] => simp [T.lsums]
  | x :: y :: r => rw [T.lsum, if_neg (by omega)]
mutual
theorem tk_gz {B : T} (hB : GZ B) : ∀ (t : T) (leaf : Int), t.good → GZ (t.tk leaf B)
  | .mk op pl k, leaf, hg => by
    rw [T.good] at hg
    rw [T.tk]
    split
    · exact hB
    · have h3 : (op = 1 ∨ op = 2) ∧ T.goods op k := by
        rcases hg with h | h
        · omega
        · exact ⟨h.1, h.2.2.2⟩
      exact put_gz h3.1 (tks_gz hB op k leaf h3.2)
theorem tks_gz {B : T} (hB : GZ B) (op : Int) : ∀ (k : List T) (leaf : Int), T.goods op k → ∀ t ∈ T.tks k leaf B, GZ t
  | [], _, _, t, ht => by simp [T.tks] at ht
  | p :: r, leaf, hg, t, ht => by
    rw [T.goods] at hg
    rw [T.tks, List.mem_cons] at ht
    rcases ht with rfl | ht
    · split
      · exact tk_gz hB p leaf hg.1
      · exact .inr hg.1
    · exact tks_gz hB op r _ hg.2.2 t ht
end
mutual
/-- A leaf less. -/
theorem tk_sum (w : Int → Int → Int) {l : List Nd} : ∀ (t : T) (b : Nat), t.good → Seg l b (t.vrow b) → ∀ x ∈ t.ready b, ∀ n, l[x.toNat]? = some n → (t.tk (x - b) .zero).lsum w = t.lsum w - w n.op n.pl
  | .mk op pl k, b, hg, hs, x, hx, m, hm => by
    obtain ⟨n, hn, e1', e2', _⟩ := hs.root
    have e1 : n.op = op := e1'
    have e2 : n.pl = pl := e2'
    rw [T.vrow, Seg.app] at hs
    rw [T.sz] at hn
    rw [T.ready] at hx
    rw [T.tk, T.lsum]
    rw [T.good] at hg
    rcases hg with ⟨h1, h2, rfl⟩ | ⟨h1, rfl, h2, h3⟩
    · rw [if_pos h1, List.mem_singleton] at hx
      subst hx
      have e9 : T.szs [] = 0 := rfl
      rw [show b + (T.szs [] + 1) - 1 = b by omega] at hn
      rw [Int.toNat_natCast, hn] at hm
      cases hm
      rw [if_pos h1, if_pos h1, e1, e2]
      show (0 : Int) = _
      omega
    · rw [if_neg (by omega)] at hx
      rw [if_neg (by omega), if_neg (by omega), lsum_put w h1 _ (tks_gz (.inl rfl) op k _ h3)]
      exact tks_sum w op true k b h3 hs.1 x hx m hm
theorem tks_sum (w : Int → Int → Int) {l : List Nd} (op : Int) (first : Bool) : ∀ (k : List T) (b : Nat), T.goods op k → Seg l b (T.vrows k b) → ∀ x ∈ T.readys op first k b, ∀ n, l[x.toNat]? = some n → T.lsums w (T.tks k (x - b) .zero) = T.lsums w k - w n.op n.pl
  | [], _, _, _, x, hx, _, _ => by simp [T.readys] at hx
  | p :: r, b, hg, hs, x, hx, n, hn => by
    rw [T.goods] at hg
    rw [T.vrows, Seg.app, T.vrow_len] at hs
    have hsz := (T.good_full p hg.1).2
    rw [T.readys, hsz, List.mem_append] at hx
    rw [T.tks, hsz, T.lsums, T.lsums]
    rcases hx with hx | hx
    · split at hx
      · have h1 := ready_leaf p b hg.1 hs.1 x hx
        rw [if_pos (by omega), tks_out op r _ _ hg.2.2 (by omega), tk_sum w p b hg.1 hs.1 x hx n hn]
        omega
      · cases hx
    · have h1 := readys_leaf op false r (b + p.sz) hg.2.2 hs.2 x hx
      have h2 := tks_sum w op false r (b + p.sz) hg.2.2 hs.2 x hx n hn
      rw [if_neg (by omega), show x - (b : Int) - (p.sz : Int) = x - ((b + p.sz : Nat) : Int) by omega, h2]
      omega
end
mutual
theorem cnt_pos : ∀ t : T, t.good → 1 ≤ t.lsum fun _ _ => 1
  | .mk op pl k, hg => by
    rw [T.good] at hg
    rw [T.lsum]
    rcases hg with ⟨h1, _, _⟩ | ⟨h1, _, h2, h3⟩
    · rw [if_pos h1]; omega
    · rw [if_neg (by omega)]
      have := cnts_pos op k h3
      omega
theorem cnts_pos (op : Int) : ∀ k : List T, T.goods op k → (k.length : Int) ≤ T.lsums (fun _ _ => 1) k
  | [], _ => by simp [T.lsums]
  | p :: r, hg => by
    rw [T.goods] at hg
    have h1 := cnt_pos p hg.1
    have h2 := cnts_pos op r hg.2.2
    rw [T.lsums, List.length_cons]
    omega
end
mutual
theorem ready_ne : ∀ (t : T) (b : Nat), t.good → t.ready b ≠ []
  | .mk op pl k, b, hg => by
    rw [T.good] at hg
    rw [T.ready]
    rcases hg with ⟨h1, _, _⟩ | ⟨h1, _, h2, h3⟩
    · rw [if_pos h1]; simp
    · rw [if_neg (by omega)]
      match k, h2, h3 with
      | p :: r, _, h3 =>
        rw [T.goods] at h3
        rw [T.readys, if_pos (.inr rfl)]
        have := ready_ne p b h3.1
        intro e
        rw [List.append_eq_nil_iff] at e
        exact this e.1
end
theorem wrap_add (a b : Int) : IntKind.i64.wrap (IntKind.i64.wrap a + b) = IntKind.i64.wrap (a + b) := by
  unfold IntKind.wrap
  simp [IntKind.signed, IntKind.bits]
  omega
theorem wrap_sub (a b : Int) : IntKind.i64.wrap (IntKind.i64.wrap a - b) = IntKind.i64.wrap (a - b) := by
  unfold IntKind.wrap
  simp [IntKind.signed, IntKind.bits]
  omega
end Go.Hs
end

section
namespace Go.Hs
open Go.Proofs
set_option maxRecDepth 10000

/- hopscotchlaw22.row -/
theorem row_spec (G : Nat → V) (hG : GOk G) (c1 c2 : Col) (t : Sl Nd) (ht : t.l.length < 1000000000) (hkk : ∀ n ∈ t.l, n.kids.l.length < 1000000000) :
    Spec Try.prog G 8 [encTree c1 c2 t] hNone (fun v _ => ∃ r : Sl Nd, v = encNds .new .new r ∧ r.l.map Nd.v = t.l.map Nd.v) := by
  refine Spec.of_code' 0 41 [.tmp 2] Try.func8 rfl rfl rfl rfl fun X => ?_
  refine AW.seq_k fun K hK => AW.region (by kernel_rfl) ?_
  simp -implicitDefEqProofs only [go_sem, ↓reduceIte, Nat.reduceEqDiff, Nat.reduceLT, Nat.reduceLeDiff, Nat.reduceAdd, Nat.reduceMul, Nat.reduceSub, Nat.reduceBEq, Int.reduceToNat, Int.reduceLT, Int.reduceLE, Int.reduceEq, Int.reduceNe, Int.reduceBEq, Int.reduceBNe, Int.reduceAdd, Int.reduceSub, Int.natCast_nonneg, Bool.false_eq_true, Bool.true_eq_false, eq_self]
  intro g1
  refine hK _ ?_
  clear hK K
  refine AW.seq_k fun K hK => AW.region (by kernel_rfl) ?_
  simp -implicitDefEqProofs only [go_sem, ↓reduceIte, Nat.reduceEqDiff, Nat.reduceLT, Nat.reduceLeDiff, Nat.reduceAdd, Nat.reduceMul, Nat.reduceSub, Nat.reduceBEq, Int.reduceToNat, Int.reduceLT, Int.reduceLE, Int.reduceEq, Int.reduceNe, Int.reduceBEq, Int.reduceBNe, Int.reduceAdd, Int.reduceSub, Int.natCast_nonneg, Bool.false_eq_true, Bool.true_eq_false, eq_self]
  refine hK _ ?_
  clear hK K
  refine AW.seq_k fun K1 hK1 => ?_
  refine AW.seq_k fun K hK => AW.region (by kernel_rfl) ?_
  simp -implicitDefEqProofs only [go_sem, ↓reduceIte, Nat.reduceEqDiff, Nat.reduceLT, Nat.reduceLeDiff, Nat.reduceAdd, Nat.reduceMul, Nat.reduceSub, Nat.reduceBEq, Int.reduceToNat, Int.reduceLT, Int.reduceLE, Int.reduceEq, Int.reduceNe, Int.reduceBEq, Int.reduceBNe, Int.reduceAdd, Int.reduceSub, Int.natCast_nonneg, Bool.false_eq_true, Bool.true_eq_false, eq_self]
  refine hK _ ?_
  clear hK K
  refine AW.block ?_
  refine AW.for t.l.length (fun k (x : Nat × List Nd) => st [(1, .ptr 1 g1 0), (3, grown 39 x.1 3 x.2), (4, .int .i64 k)] [(1, .cells .new g1 0 [encSl c1 3 (encNd c2) t]), (39, grownO x.1 (encNd .new) x.2)])
    (fun k x => x.2.map Nd.v = (t.l.take k).map Nd.v) 0 (0, []) (Nat.zero_le _) (by simp)
    (Weak.st (by simp -implicitDefEqProofs only [go_sem, ↓reduceIte, Nat.reduceEqDiff, Nat.reduceLT, Nat.reduceLeDiff, Nat.reduceAdd, Nat.reduceMul, Nat.reduceSub, Nat.reduceBEq, Int.reduceToNat, Int.reduceLT, Int.reduceLE, Int.reduceEq, Int.reduceNe, Int.reduceBEq, Int.reduceBNe, Int.reduceAdd, Int.reduceSub, Int.natCast_nonneg, Bool.false_eq_true, Bool.true_eq_false, eq_self]; simp [grown]) (by simp -implicitDefEqProofs only [go_sem, ↓reduceIte, Nat.reduceEqDiff, Nat.reduceLT, Nat.reduceLeDiff, Nat.reduceAdd, Nat.reduceMul, Nat.reduceSub, Nat.reduceBEq, Int.reduceToNat, Int.reduceLT, Int.reduceLE, Int.reduceEq, Int.reduceNe, Int.reduceBEq, Int.reduceBNe, Int.reduceAdd, Int.reduceSub, Int.natCast_nonneg, Bool.false_eq_true, Bool.true_eq_false, eq_self]; rfl)) ?_
  rintro k ⟨gx, l⟩ hk hR L2 hL2
  refine AW.seq_k fun K3 hK3 => ?_
  refine AW.seq_k fun K hK => AW.region (by kernel_rfl) ?_
  simp -implicitDefEqProofs only [go_sem, ↓reduceIte, Nat.reduceEqDiff, Nat.reduceLT, Nat.reduceLeDiff, Nat.reduceAdd, Nat.reduceMul, Nat.reduceSub, Nat.reduceBEq, Int.reduceToNat, Int.reduceLT, Int.reduceLE, Int.reduceEq, Int.reduceNe, Int.reduceBEq, Int.reduceBNe, Int.reduceAdd, Int.reduceSub, Int.natCast_nonneg, Bool.false_eq_true, Bool.true_eq_false, eq_self]
  refine hK _ ?_
  clear hK K
  refine AW.condS (by simp -implicitDefEqProofs only [go_sem, ↓reduceIte, Nat.reduceEqDiff, Nat.reduceLT, Nat.reduceLeDiff, Nat.reduceAdd, Nat.reduceMul, Nat.reduceSub, Nat.reduceBEq, Int.reduceToNat, Int.reduceLT, Int.reduceLE, Int.reduceEq, Int.reduceNe, Int.reduceBEq, Int.reduceBNe, Int.reduceAdd, Int.reduceSub, Int.natCast_nonneg, Bool.false_eq_true, Bool.true_eq_false, eq_self]; rfl) (fun h4 => ?_) (fun h4 => ?_)
  · -- true
    refine AW.skip ?_
    simp -implicitDefEqProofs only [go_sem, ↓reduceIte, Nat.reduceEqDiff, Nat.reduceLT, Nat.reduceLeDiff, Nat.reduceAdd, Nat.reduceMul, Nat.reduceSub, Nat.reduceBEq, Int.reduceToNat, Int.reduceLT, Int.reduceLE, Int.reduceEq, Int.reduceNe, Int.reduceBEq, Int.reduceBNe, Int.reduceAdd, Int.reduceSub, Int.natCast_nonneg, Bool.false_eq_true, Bool.true_eq_false, eq_self]
    refine hK3 _ ?_
    have hk1 : k < t.l.length := by simpa using h4
    have hgi := List.getElem?_eq_getElem hk1
    refine AW.seq_k fun K5 hK5 => ?_
    refine AW.block ?_
    refine AW.seq_k fun K hK => AW.regionT ⟨fun _ => .top, fun _ => .pure⟩ (by kernel_rfl) hG (by kernel_rfl) (by kernel_rfl) ?_
    simp -implicitDefEqProofs only [go_sem, ↓reduceIte, Nat.reduceEqDiff, Nat.reduceLT, Nat.reduceLeDiff, Nat.reduceAdd, Nat.reduceMul, Nat.reduceSub, Nat.reduceBEq, Int.reduceToNat, Int.reduceLT, Int.reduceLE, Int.reduceEq, Int.reduceNe, Int.reduceBEq, Int.reduceBNe, Int.reduceAdd, Int.reduceSub, Int.natCast_nonneg, Bool.false_eq_true, Bool.true_eq_false, eq_self, hgi]
    intro g5
    refine hK _ ?_
    clear hK K
    refine AW.seq_k fun K hK => AW.regionT ⟨fun _ => .top, fun _ => .pure⟩ (by kernel_rfl) hG (by kernel_rfl) (by kernel_rfl) ?_
    simp -implicitDefEqProofs only [go_sem, ↓reduceIte, Nat.reduceEqDiff, Nat.reduceLT, Nat.reduceLeDiff, Nat.reduceAdd, Nat.reduceMul, Nat.reduceSub, Nat.reduceBEq, Int.reduceToNat, Int.reduceLT, Int.reduceLE, Int.reduceEq, Int.reduceNe, Int.reduceBEq, Int.reduceBNe, Int.reduceAdd, Int.reduceSub, Int.natCast_nonneg, Bool.false_eq_true, Bool.true_eq_false, eq_self, hgi]
    refine app_grown (f := V.int .i64) (l := []) (l2 := (t.l[k]).kids.l) (g := 0) (fun _ => rfl) rfl rfl rfl rfl (roomOk_of (by omega) (by have := hkk _ (List.getElem_mem hk1); simp; omega)) fun g34 => ?_
    simp -implicitDefEqProofs only [go_sem, ↓reduceIte, Nat.reduceEqDiff, Nat.reduceLT, Nat.reduceLeDiff, Nat.reduceAdd, Nat.reduceMul, Nat.reduceSub, Nat.reduceBEq, Int.reduceToNat, Int.reduceLT, Int.reduceLE, Int.reduceEq, Int.reduceNe, Int.reduceBEq, Int.reduceBNe, Int.reduceAdd, Int.reduceSub, Int.natCast_nonneg, Bool.false_eq_true, Bool.true_eq_false, eq_self]
    refine hK _ ?_
    clear hK K
    refine AW.weak (Weak.stF (fun o => o == 34) (l := [(1, .ptr 1 g1 0), (3, grown 39 gx 3 l), (4, .int .i64 k), (5, .ptr 5 g5 0)])
      (m := [(1, .cells .new g1 0 [encSl c1 3 (encNd c2) t]), (39, grownO gx (encNd .new) l), (5, .cells .new g5 0 [.int .u8 t.l[k].op, .int .i64 t.l[k].pl, encSl .new 1 (V.int .i64) (grownS t.l[k].kids.l)])]) ?_ ?_) ?_
    · simp -implicitDefEqProofs only [go_sem, ↓reduceIte, Nat.reduceEqDiff, Nat.reduceLT, Nat.reduceLeDiff, Nat.reduceAdd, Nat.reduceMul, Nat.reduceSub, Nat.reduceBEq, Int.reduceToNat, Int.reduceLT, Int.reduceLE, Int.reduceEq, Int.reduceNe, Int.reduceBEq, Int.reduceBNe, Int.reduceAdd, Int.reduceSub, Int.natCast_nonneg, Bool.false_eq_true, Bool.true_eq_false, eq_self]
      exact ⟨Fz.same _, Fz.same _, Fz.same _, Fz.same _⟩
    · simp only [allFzO_cons, allFzO_nil, and_true]
      exact ⟨FzO.same rfl, FzO.same rfl, FzO.of rfl rfl ⟨Fz.same _, Fz.same _, Fz.grown rfl rfl (fun _ => rfl), trivial⟩⟩
    refine AW.region (by kernel_rfl) ?_
    simp -implicitDefEqProofs only [go_sem, ↓reduceIte, Nat.reduceEqDiff, Nat.reduceLT, Nat.reduceLeDiff, Nat.reduceAdd, Nat.reduceMul, Nat.reduceSub, Nat.reduceBEq, Int.reduceToNat, Int.reduceLT, Int.reduceLE, Int.reduceEq, Int.reduceNe, Int.reduceBEq, Int.reduceBNe, Int.reduceAdd, Int.reduceSub, Int.natCast_nonneg, Bool.false_eq_true, Bool.true_eq_false, eq_self]
    intro g38
    refine app_grown (f := encNd .new) (l := l) (l2 := [⟨t.l[k].op, t.l[k].pl, grownS t.l[k].kids.l⟩]) (g := gx) (fun _ => rfl) rfl rfl rfl rfl (roomOk_of (by omega) ?_) fun g39 => ?_
    · have := congrArg List.length hR
      simp at this ⊢
      omega
    simp -implicitDefEqProofs only [go_sem, ↓reduceIte, Nat.reduceEqDiff, Nat.reduceLT, Nat.reduceLeDiff, Nat.reduceAdd, Nat.reduceMul, Nat.reduceSub, Nat.reduceBEq, Int.reduceToNat, Int.reduceLT, Int.reduceLE, Int.reduceEq, Int.reduceNe, Int.reduceBEq, Int.reduceBNe, Int.reduceAdd, Int.reduceSub, Int.natCast_nonneg, Bool.false_eq_true, Bool.true_eq_false, eq_self]
    refine hK5 _ ?_
    refine AW.region (by kernel_rfl) ?_
    simp -implicitDefEqProofs only [go_sem, ↓reduceIte, Nat.reduceEqDiff, Nat.reduceLT, Nat.reduceLeDiff, Nat.reduceAdd, Nat.reduceMul, Nat.reduceSub, Nat.reduceBEq, Int.reduceToNat, Int.reduceLT, Int.reduceLE, Int.reduceEq, Int.reduceNe, Int.reduceBEq, Int.reduceBNe, Int.reduceAdd, Int.reduceSub, Int.natCast_nonneg, Bool.false_eq_true, Bool.true_eq_false, eq_self]
    refine hL2 _ ⟨hk1, (g39, l ++ [⟨t.l[k].op, t.l[k].pl, grownS t.l[k].kids.l⟩]), ?_, Weak.st (by simp -implicitDefEqProofs only [go_sem, ↓reduceIte, Nat.reduceEqDiff, Nat.reduceLT, Nat.reduceLeDiff, Nat.reduceAdd, Nat.reduceMul, Nat.reduceSub, Nat.reduceBEq, Int.reduceToNat, Int.reduceLT, Int.reduceLE, Int.reduceEq, Int.reduceNe, Int.reduceBEq, Int.reduceBNe, Int.reduceAdd, Int.reduceSub, Int.natCast_nonneg, Bool.false_eq_true, Bool.true_eq_false, eq_self]; simp; exact w64 (by omega) (by omega)) (by simp -implicitDefEqProofs only [go_sem, ↓reduceIte, Nat.reduceEqDiff, Nat.reduceLT, Nat.reduceLeDiff, Nat.reduceAdd, Nat.reduceMul, Nat.reduceSub, Nat.reduceBEq, Int.reduceToNat, Int.reduceLT, Int.reduceLE, Int.reduceEq, Int.reduceNe, Int.reduceBEq, Int.reduceBNe, Int.reduceAdd, Int.reduceSub, Int.natCast_nonneg, Bool.false_eq_true, Bool.true_eq_false, eq_self])⟩
    rw [List.take_succ_eq_append_getElem hk1, List.map_append, List.map_append, hR]
    simp [Nd.v, grownS_l]
  · -- false
    refine AW.exit ?_
    simp -implicitDefEqProofs only [go_sem, ↓reduceIte, Nat.reduceEqDiff, Nat.reduceLT, Nat.reduceLeDiff, Nat.reduceAdd, Nat.reduceMul, Nat.reduceSub, Nat.reduceBEq, Int.reduceToNat, Int.reduceLT, Int.reduceLE, Int.reduceEq, Int.reduceNe, Int.reduceBEq, Int.reduceBNe, Int.reduceAdd, Int.reduceSub, Int.natCast_nonneg, Bool.false_eq_true, Bool.true_eq_false, eq_self]
    refine hK1 _ ?_
    have hk1 : k = t.l.length := by simp at h4; omega
    refine AW.seq_k fun K hK => AW.region (by kernel_rfl) ?_
    simp -implicitDefEqProofs only [go_sem, ↓reduceIte, Nat.reduceEqDiff, Nat.reduceLT, Nat.reduceLeDiff, Nat.reduceAdd, Nat.reduceMul, Nat.reduceSub, Nat.reduceBEq, Int.reduceToNat, Int.reduceLT, Int.reduceLE, Int.reduceEq, Int.reduceNe, Int.reduceBEq, Int.reduceBNe, Int.reduceAdd, Int.reduceSub, Int.natCast_nonneg, Bool.false_eq_true, Bool.true_eq_false, eq_self]
    refine hK _ ?_
    clear hK K
    refine AW.weak (Weak.stF (fun o => o == 39) (l := [(2, encNds .new .new (grownS l))]) (m := []) ?_ trivial) ?_
    · simp -implicitDefEqProofs only [go_sem, ↓reduceIte, Nat.reduceEqDiff, Nat.reduceLT, Nat.reduceLeDiff, Nat.reduceAdd, Nat.reduceMul, Nat.reduceSub, Nat.reduceBEq, Int.reduceToNat, Int.reduceLT, Int.reduceLE, Int.reduceEq, Int.reduceNe, Int.reduceBEq, Int.reduceBNe, Int.reduceAdd, Int.reduceSub, Int.natCast_nonneg, Bool.false_eq_true, Bool.true_eq_false, eq_self]
      exact Fz.grown rfl rfl (fun _ => rfl)
    refine AW.ret ?_
    simp -implicitDefEqProofs only [go_sem, ↓reduceIte, Nat.reduceEqDiff, Nat.reduceLT, Nat.reduceLeDiff, Nat.reduceAdd, Nat.reduceMul, Nat.reduceSub, Nat.reduceBEq, Int.reduceToNat, Int.reduceLT, Int.reduceLE, Int.reduceEq, Int.reduceNe, Int.reduceBEq, Int.reduceBNe, Int.reduceAdd, Int.reduceSub, Int.natCast_nonneg, Bool.false_eq_true, Bool.true_eq_false, eq_self]
    refine endK_some ?_
    refine ⟨grownS l, rfl, ?_⟩
    rw [grownS_l, hR, hk1, List.take_length]
end Go.Hs
end

section
namespace Go.Hs
open Go.Proofs
set_option maxRecDepth 10000

mutual
theorem ready_len : ∀ (t : T) (b : Nat), t.full = true → (t.ready b).length ≤ t.size
  | .mk op pl k, b, h => by
    simp only [T.full, Bool.and_eq_true, bne_iff_ne] at h
    have := readys_len op k true b h.2
    rw [T.ready, T.size, if_neg h.1]
    split
    · simp
    · omega
theorem readys_len (op : Int) : ∀ (k : List T) (first : Bool) (b : Nat), T.fulls k = true → (T.readys op first k b).length ≤ T.sizes k
  | [], _, _, _ => by simp [T.readys]
  | t :: r, first, b, h => by
    simp only [T.fulls, Bool.and_eq_true] at h
    have h1 := ready_len t b h.1
    have h2 := readys_len op r false (b + t.size) h.2
    simp only [T.readys, List.length_append, T.sizes]
    split <;> simp <;> omega
end

/- hopscotch/hopscotchref22.Ready -/
theorem rReady_spec (G : Nat → V) (hG : GOk G) : ∀ (n : Nat) (c : Col) (p : Pt) (b : Nat), p.dep ≤ n → b + p.v.size < 1000000000 → (p.op = 0 ∧ p.ks.l = [] ∨ p.v.full = true) →
    Spec Try.prog G 10 [encPt c p, .int .i64 b] hNone (fun v _ => v = encSl .new 1 (V.int .i64) (grownS (p.v.ready b))) := by
  intro n
  induction n with
  | zero => intro c p b hd; obtain ⟨_, _, _, _⟩ := p; simp [Pt.dep] at hd
  | succ n ih =>
  intro c p b hd hs hf
  refine Spec.of_code' 0 46 [.tmp 4] Try.func10 rfl rfl rfl rfl fun X => ?_
  refine AW.seq_k fun K hK => AW.region (by kernel_rfl) ?_
  simp -implicitDefEqProofs only [go_sem, ↓reduceIte, Nat.reduceEqDiff, Nat.reduceLT, Nat.reduceLeDiff, Nat.reduceAdd, Nat.reduceMul, Nat.reduceSub, Nat.reduceBEq, Int.reduceToNat, Int.reduceLT, Int.reduceLE, Int.reduceEq, Int.reduceNe, Int.reduceBEq, Int.reduceBNe, Int.reduceAdd, Int.reduceSub, Int.natCast_nonneg, Bool.false_eq_true, Bool.true_eq_false, eq_self]
  intro g2
  refine hK _ ?_
  clear hK K
  refine AW.seq_k fun K hK => AW.region (by kernel_rfl) ?_
  simp -implicitDefEqProofs only [go_sem, ↓reduceIte, Nat.reduceEqDiff, Nat.reduceLT, Nat.reduceLeDiff, Nat.reduceAdd, Nat.reduceMul, Nat.reduceSub, Nat.reduceBEq, Int.reduceToNat, Int.reduceLT, Int.reduceLE, Int.reduceEq, Int.reduceNe, Int.reduceBEq, Int.reduceBNe, Int.reduceAdd, Int.reduceSub, Int.natCast_nonneg, Bool.false_eq_true, Bool.true_eq_false, eq_self]
  refine hK _ ?_
  clear hK K
  refine AW.seq_k fun K1 hK1 => ?_
  refine AW.seq_k fun K hK => AW.region (by kernel_rfl) ?_
  simp -implicitDefEqProofs only [go_sem, ↓reduceIte, Nat.reduceEqDiff, Nat.reduceLT, Nat.reduceLeDiff, Nat.reduceAdd, Nat.reduceMul, Nat.reduceSub, Nat.reduceBEq, Int.reduceToNat, Int.reduceLT, Int.reduceLE, Int.reduceEq, Int.reduceNe, Int.reduceBEq, Int.reduceBNe, Int.reduceAdd, Int.reduceSub, Int.natCast_nonneg, Bool.false_eq_true, Bool.true_eq_false, eq_self]
  refine hK _ ?_
  clear hK K
  refine AW.condS (by simp -implicitDefEqProofs only [go_sem, ↓reduceIte, Nat.reduceEqDiff, Nat.reduceLT, Nat.reduceLeDiff, Nat.reduceAdd, Nat.reduceMul, Nat.reduceSub, Nat.reduceBEq, Int.reduceToNat, Int.reduceLT, Int.reduceLE, Int.reduceEq, Int.reduceNe, Int.reduceBEq, Int.reduceBNe, Int.reduceAdd, Int.reduceSub, Int.natCast_nonneg, Bool.false_eq_true, Bool.true_eq_false, eq_self]; rfl) (fun h2 => ?_) (fun h2 => ?_)
  · -- true
    refine AW.seq_k fun K hK => AW.region (by kernel_rfl) ?_
    simp -implicitDefEqProofs only [go_sem, ↓reduceIte, Nat.reduceEqDiff, Nat.reduceLT, Nat.reduceLeDiff, Nat.reduceAdd, Nat.reduceMul, Nat.reduceSub, Nat.reduceBEq, Int.reduceToNat, Int.reduceLT, Int.reduceLE, Int.reduceEq, Int.reduceNe, Int.reduceBEq, Int.reduceBNe, Int.reduceAdd, Int.reduceSub, Int.natCast_nonneg, Bool.false_eq_true, Bool.true_eq_false, eq_self]
    intro g12
    refine app_grown (f := V.int .i64) (l := []) (l2 := [(b : Int)]) (g := 0) (fun _ => rfl) rfl rfl rfl rfl (roomOk_of (by omega) (by simp)) fun g13 => ?_
    simp -implicitDefEqProofs only [go_sem, ↓reduceIte, Nat.reduceEqDiff, Nat.reduceLT, Nat.reduceLeDiff, Nat.reduceAdd, Nat.reduceMul, Nat.reduceSub, Nat.reduceBEq, Int.reduceToNat, Int.reduceLT, Int.reduceLE, Int.reduceEq, Int.reduceNe, Int.reduceBEq, Int.reduceBNe, Int.reduceAdd, Int.reduceSub, Int.natCast_nonneg, Bool.false_eq_true, Bool.true_eq_false, eq_self]
    refine hK _ ?_
    clear hK K
    refine AW.weak (Weak.stF (fun o => o == 13) (l := [(4, encSl .new 1 (V.int .i64) (grownS [(b : Int)]))]) (m := []) ?_ trivial) ?_
    · simp -implicitDefEqProofs only [go_sem, ↓reduceIte, Nat.reduceEqDiff, Nat.reduceLT, Nat.reduceLeDiff, Nat.reduceAdd, Nat.reduceMul, Nat.reduceSub, Nat.reduceBEq, Int.reduceToNat, Int.reduceLT, Int.reduceLE, Int.reduceEq, Int.reduceNe, Int.reduceBEq, Int.reduceBNe, Int.reduceAdd, Int.reduceSub, Int.natCast_nonneg, Bool.false_eq_true, Bool.true_eq_false, eq_self]
      exact Fz.grown rfl rfl (fun _ => rfl)
    refine AW.ret ?_
    simp -implicitDefEqProofs only [go_sem, ↓reduceIte, Nat.reduceEqDiff, Nat.reduceLT, Nat.reduceLeDiff, Nat.reduceAdd, Nat.reduceMul, Nat.reduceSub, Nat.reduceBEq, Int.reduceToNat, Int.reduceLT, Int.reduceLE, Int.reduceEq, Int.reduceNe, Int.reduceBEq, Int.reduceBNe, Int.reduceAdd, Int.reduceSub, Int.natCast_nonneg, Bool.false_eq_true, Bool.true_eq_false, eq_self]
    refine endK_some ?_
    have h3 : p.v.op ≥ 3 := by rw [Pt.op_v]; simpa using h2
    rw [T.ready_K, if_pos h3]
  · -- false
    refine AW.skip ?_
    simp -implicitDefEqProofs only [go_sem, ↓reduceIte, Nat.reduceEqDiff, Nat.reduceLT, Nat.reduceLeDiff, Nat.reduceAdd, Nat.reduceMul, Nat.reduceSub, Nat.reduceBEq, Int.reduceToNat, Int.reduceLT, Int.reduceLE, Int.reduceEq, Int.reduceNe, Int.reduceBEq, Int.reduceBNe, Int.reduceAdd, Int.reduceSub, Int.natCast_nonneg, Bool.false_eq_true, Bool.true_eq_false, eq_self]
    refine hK1 _ ?_
    have h3 : ¬ p.v.op ≥ 3 := by rw [Pt.op_v]; simpa using h2
    have hrd := T.ready_K p.v b
    rw [if_neg h3] at hrd
    have hfk : ∀ q ∈ p.ks.l, q.v.full = true := by
      intro q hq
      rcases hf with ⟨_, hf⟩ | hf
      · rw [hf] at hq; cases hq
      · exact ((T.full_K _).1 hf).2 _ (by rw [Pt.kids_v]; exact List.mem_map_of_mem hq)
    have hsz : p.ks.l = [] ∨ p.v.size = 1 + (p.ks.l.map fun q => q.v.size).sum := by
      rcases hf with hf | hf
      · exact .inl hf.2
      · exact .inr (by rw [T.size_K, if_neg ((T.full_K _).1 hf).1, Pt.kids_v, List.map_map]; rfl)
    have hkl : p.ks.l.length < 1000000000 := by
      rcases hf with hf | hf
      · rw [hf.2]; simp
      · have := T.full_kids hf
        rw [Pt.kids_v, List.length_map] at this
        omega
    refine AW.seq_k fun K3 hK3 => ?_
    refine AW.seq_k fun K hK => AW.region (by kernel_rfl) ?_
    simp -implicitDefEqProofs only [go_sem, ↓reduceIte, Nat.reduceEqDiff, Nat.reduceLT, Nat.reduceLeDiff, Nat.reduceAdd, Nat.reduceMul, Nat.reduceSub, Nat.reduceBEq, Int.reduceToNat, Int.reduceLT, Int.reduceLE, Int.reduceEq, Int.reduceNe, Int.reduceBEq, Int.reduceBNe, Int.reduceAdd, Int.reduceSub, Int.natCast_nonneg, Bool.false_eq_true, Bool.true_eq_false, eq_self]
    refine hK _ ?_
    clear hK K
    refine AW.block ?_
    refine AW.for p.ks.l.length (fun k (x : Nat × List Int) => st [(1, .int .i64 ((b + ((p.ks.l.take k).map fun q => q.v.size).sum : Nat) : Int)), (2, .ptr 2 g2 0), (5, grown 36 x.1 1 x.2), (6, .int .i64 k)]
        [(2, .cells .new g2 0 [.int .u8 p.op, .int .i64 p.pl, encSl c 3 (encPt c) p.ks]), (36, grownO x.1 (V.int .i64) x.2)])
      (fun k x => x.2 ++ T.readys p.v.op (k == 0) ((p.ks.l.drop k).map Pt.v) (b + ((p.ks.l.take k).map fun q => q.v.size).sum) = p.v.ready b) 0 (0, []) (Nat.zero_le _) (by rw [hrd, Pt.kids_v]; simp)
      (Weak.st (by simp -implicitDefEqProofs only [go_sem, ↓reduceIte, Nat.reduceEqDiff, Nat.reduceLT, Nat.reduceLeDiff, Nat.reduceAdd, Nat.reduceMul, Nat.reduceSub, Nat.reduceBEq, Int.reduceToNat, Int.reduceLT, Int.reduceLE, Int.reduceEq, Int.reduceNe, Int.reduceBEq, Int.reduceBNe, Int.reduceAdd, Int.reduceSub, Int.natCast_nonneg, Bool.false_eq_true, Bool.true_eq_false, eq_self]; simp [grown]) (by simp -implicitDefEqProofs only [go_sem, ↓reduceIte, Nat.reduceEqDiff, Nat.reduceLT, Nat.reduceLeDiff, Nat.reduceAdd, Nat.reduceMul, Nat.reduceSub, Nat.reduceBEq, Int.reduceToNat, Int.reduceLT, Int.reduceLE, Int.reduceEq, Int.reduceNe, Int.reduceBEq, Int.reduceBNe, Int.reduceAdd, Int.reduceSub, Int.natCast_nonneg, Bool.false_eq_true, Bool.true_eq_false, eq_self]; rfl)) ?_
    rintro k ⟨gx, l⟩ hk hR L4 hL4
    refine AW.seq_k fun K5 hK5 => ?_
    refine AW.seq_k fun K hK => AW.region (by kernel_rfl) ?_
    simp -implicitDefEqProofs only [go_sem, ↓reduceIte, Nat.reduceEqDiff, Nat.reduceLT, Nat.reduceLeDiff, Nat.reduceAdd, Nat.reduceMul, Nat.reduceSub, Nat.reduceBEq, Int.reduceToNat, Int.reduceLT, Int.reduceLE, Int.reduceEq, Int.reduceNe, Int.reduceBEq, Int.reduceBNe, Int.reduceAdd, Int.reduceSub, Int.natCast_nonneg, Bool.false_eq_true, Bool.true_eq_false, eq_self]
    refine hK _ ?_
    clear hK K
    refine AW.condS (by simp -implicitDefEqProofs only [go_sem, ↓reduceIte, Nat.reduceEqDiff, Nat.reduceLT, Nat.reduceLeDiff, Nat.reduceAdd, Nat.reduceMul, Nat.reduceSub, Nat.reduceBEq, Int.reduceToNat, Int.reduceLT, Int.reduceLE, Int.reduceEq, Int.reduceNe, Int.reduceBEq, Int.reduceBNe, Int.reduceAdd, Int.reduceSub, Int.natCast_nonneg, Bool.false_eq_true, Bool.true_eq_false, eq_self]; rfl) (fun h6 => ?_) (fun h6 => ?_)
    · -- true
      refine AW.skip ?_
      simp -implicitDefEqProofs only [go_sem, ↓reduceIte, Nat.reduceEqDiff, Nat.reduceLT, Nat.reduceLeDiff, Nat.reduceAdd, Nat.reduceMul, Nat.reduceSub, Nat.reduceBEq, Int.reduceToNat, Int.reduceLT, Int.reduceLE, Int.reduceEq, Int.reduceNe, Int.reduceBEq, Int.reduceBNe, Int.reduceAdd, Int.reduceSub, Int.natCast_nonneg, Bool.false_eq_true, Bool.true_eq_false, eq_self]
      refine hK5 _ ?_
      have hk1 : k < p.ks.l.length := by simpa using h6
      have hgi := List.getElem?_eq_getElem hk1
      have hq := List.getElem_mem hk1
      have hszk := hsz.resolve_left (by intro e; rw [e] at hk1; simp at hk1)
      have htk := sum_take_le (p.ks.l.map fun q => q.v.size) (k + 1)
      rw [← List.map_take, List.take_succ_eq_append_getElem hk1, List.map_append, List.sum_append] at htk
      simp at htk
      have hR' : l ++ ((if p.v.op = 2 ∨ (k == 0) = true then (p.ks.l[k].v).ready (b + ((p.ks.l.take k).map fun q => q.v.size).sum) else []) ++
          T.readys p.v.op false ((p.ks.l.drop (k + 1)).map Pt.v) (b + ((p.ks.l.take (k + 1)).map fun q => q.v.size).sum)) = p.v.ready b := by
        rw [← hR, List.drop_eq_getElem_cons hk1, List.map_cons, T.readys, List.take_succ_eq_append_getElem hk1, List.map_append, List.sum_append]
        simp [Nat.add_assoc]
      have hll : l.length ≤ (p.v.ready b).length := by rw [← hR]; simp
      refine AW.seq_k fun K7 hK7 => ?_
      refine AW.block ?_
      refine AW.seqJ (fun (x : Nat × List Int) => st [(1, .int .i64 ((b + ((p.ks.l.take k).map fun q => q.v.size).sum : Nat) : Int)), (2, .ptr 2 g2 0), (5, grown 36 x.1 1 x.2), (6, .int .i64 k)]
        [(2, .cells .new g2 0 [.int .u8 p.op, .int .i64 p.pl, encSl c 3 (encPt c) p.ks]), (36, grownO x.1 (V.int .i64) x.2)])
        (fun x => x.2 ++ T.readys p.v.op false ((p.ks.l.drop (k + 1)).map Pt.v) (b + ((p.ks.l.take (k + 1)).map fun q => q.v.size).sum) = p.v.ready b) (fun K8 hK8 => ?_) ?_
      · obtain ⟨d, hd7⟩ : ∃ d, ((p.op == 2) = true ∧ d = true) ∨ ((p.op == 2) = false ∧ ((k : Int) == 0) = d) := by
          cases h : (p.op == 2)
          · exact ⟨_, .inr ⟨rfl, rfl⟩⟩
          · exact ⟨true, .inl ⟨rfl, rfl⟩⟩
        have hcd : (p.v.op = 2 ∨ (k == 0) = true) ↔ d = true := by
          rw [Pt.op_v]
          rcases hd7 with ⟨h1, h2⟩ | ⟨h1, h2⟩
          · simp at h1; simp [h1, h2]
          · have h1' : ¬ p.op = 2 := by simpa using h1
            rw [← h2]
            simp [h1']
        refine AW.seq_k fun K hK => ?_
        suffices hgo : ∀ τ' : Nat → V, τ' 27 = .bool d → τ' 1 = V.int .i64 ((b + ((p.ks.l.take k).map fun q => q.v.size).sum : Nat) : Int) → τ' 2 = .ptr 2 g2 0 → τ' 5 = grown 36 gx 1 l → τ' 6 = .int .i64 k →
            K ⟨τ', sets hNone [(2, .cells .new g2 0 [.int .u8 p.op, .int .i64 p.pl, encSl c 3 (encPt c) p.ks]), (36, grownO gx (V.int .i64) l)]⟩ by
          rcases hd7 with ⟨h1, h2⟩ | ⟨h1, h2⟩
          · refine AW.region (by kernel_rfl) ?_
            simp -implicitDefEqProofs only [go_sem, ↓reduceIte, Nat.reduceEqDiff, Nat.reduceLT, Nat.reduceLeDiff, Nat.reduceAdd, Nat.reduceMul, Nat.reduceSub, Nat.reduceBEq, Int.reduceToNat, Int.reduceLT, Int.reduceLE, Int.reduceEq, Int.reduceNe, Int.reduceBEq, Int.reduceBNe, Int.reduceAdd, Int.reduceSub, Int.natCast_nonneg, Bool.false_eq_true, Bool.true_eq_false, eq_self, h1]
            subst h2
            refine hgo _ ?_ ?_ ?_ ?_ ?_ <;> simp -implicitDefEqProofs only [go_sem, ↓reduceIte, Nat.reduceEqDiff, Nat.reduceLT, Nat.reduceLeDiff, Nat.reduceAdd, Nat.reduceMul, Nat.reduceSub, Nat.reduceBEq, Int.reduceToNat, Int.reduceLT, Int.reduceLE, Int.reduceEq, Int.reduceNe, Int.reduceBEq, Int.reduceBNe, Int.reduceAdd, Int.reduceSub, Int.natCast_nonneg, Bool.false_eq_true, Bool.true_eq_false, eq_self]
          · refine AW.region (by kernel_rfl) ?_
            simp -implicitDefEqProofs only [go_sem, ↓reduceIte, Nat.reduceEqDiff, Nat.reduceLT, Nat.reduceLeDiff, Nat.reduceAdd, Nat.reduceMul, Nat.reduceSub, Nat.reduceBEq, Int.reduceToNat, Int.reduceLT, Int.reduceLE, Int.reduceEq, Int.reduceNe, Int.reduceBEq, Int.reduceBNe, Int.reduceAdd, Int.reduceSub, Int.natCast_nonneg, Bool.false_eq_true, Bool.true_eq_false, eq_self, h1, h2]
            refine hgo _ ?_ ?_ ?_ ?_ ?_ <;> simp -implicitDefEqProofs only [go_sem, ↓reduceIte, Nat.reduceEqDiff, Nat.reduceLT, Nat.reduceLeDiff, Nat.reduceAdd, Nat.reduceMul, Nat.reduceSub, Nat.reduceBEq, Int.reduceToNat, Int.reduceLT, Int.reduceLE, Int.reduceEq, Int.reduceNe, Int.reduceBEq, Int.reduceBNe, Int.reduceAdd, Int.reduceSub, Int.natCast_nonneg, Bool.false_eq_true, Bool.true_eq_false, eq_self]
        intro τ' h27 h1 h2' h5 h6'
        refine hK _ ?_
        clear hK K
        refine AW.condS (by simp -implicitDefEqProofs only [go_sem, ↓reduceIte, Nat.reduceEqDiff, Nat.reduceLT, Nat.reduceLeDiff, Nat.reduceAdd, Nat.reduceMul, Nat.reduceSub, Nat.reduceBEq, Int.reduceToNat, Int.reduceLT, Int.reduceLE, Int.reduceEq, Int.reduceNe, Int.reduceBEq, Int.reduceBNe, Int.reduceAdd, Int.reduceSub, Int.natCast_nonneg, Bool.false_eq_true, Bool.true_eq_false, eq_self, h27]; rfl) (fun h9 => ?_) (fun h9 => ?_)
        · subst h9
          rw [if_pos (hcd.2 rfl)] at hR'
          refine AW.region (by kernel_rfl) ?_
          simp -implicitDefEqProofs only [go_sem, ↓reduceIte, Nat.reduceEqDiff, Nat.reduceLT, Nat.reduceLeDiff, Nat.reduceAdd, Nat.reduceMul, Nat.reduceSub, Nat.reduceBEq, Int.reduceToNat, Int.reduceLT, Int.reduceLE, Int.reduceEq, Int.reduceNe, Int.reduceBEq, Int.reduceBNe, Int.reduceAdd, Int.reduceSub, Int.natCast_nonneg, Bool.false_eq_true, Bool.true_eq_false, eq_self, hgi, h1, h2', h5, h6']
          refine CallA.pure hG (by kernel_rfl) ?_
          simp -implicitDefEqProofs only [go_sem, ↓reduceIte, Nat.reduceEqDiff, Nat.reduceLT, Nat.reduceLeDiff, Nat.reduceAdd, Nat.reduceMul, Nat.reduceSub, Nat.reduceBEq, Int.reduceToNat, Int.reduceLT, Int.reduceLE, Int.reduceEq, Int.reduceNe, Int.reduceBEq, Int.reduceBNe, Int.reduceAdd, Int.reduceSub, Int.natCast_nonneg, Bool.false_eq_true, Bool.true_eq_false, eq_self]
          have hih := ih c.ent p.ks.l[k] (b + ((p.ks.l.take k).map fun q => q.v.size).sum) (by have := Pt.dep_kid hq; omega) (by simp; omega) (.inr (hfk _ hq))
          rw [encPt_K] at hih
          refine hih.mono ?_
          rintro _ _ rfl
          obtain ⟨r, hr0, hr⟩ : ∃ r : Sl Int, r = grownS (p.ks.l[k].v.ready (b + ((p.ks.l.take k).map fun q => q.v.size).sum)) ∧ r.l = p.ks.l[k].v.ready (b + ((p.ks.l.take k).map fun q => q.v.size).sum) := ⟨_, rfl, grownS_l _⟩
          rw [← hr0]
          rw [← hr] at hR'
          have hll2 : l.length + r.l.length ≤ (p.v.ready b).length := by rw [← hR']; simp
          simp -implicitDefEqProofs only [go_sem, ↓reduceIte, Nat.reduceEqDiff, Nat.reduceLT, Nat.reduceLeDiff, Nat.reduceAdd, Nat.reduceMul, Nat.reduceSub, Nat.reduceBEq, Int.reduceToNat, Int.reduceLT, Int.reduceLE, Int.reduceEq, Int.reduceNe, Int.reduceBEq, Int.reduceBNe, Int.reduceAdd, Int.reduceSub, Int.natCast_nonneg, Bool.false_eq_true, Bool.true_eq_false, eq_self, Col.bk]
          refine app_grown (f := V.int .i64) (l := l) (l2 := r.l) (g := gx) (fun _ => rfl) rfl rfl rfl rfl (roomOk_of (by omega) (by have := ready_len p.v b (hf.resolve_left (by rintro ⟨_, e⟩; rw [e] at hk1; simp at hk1)); omega)) fun g36 => ?_
          simp -implicitDefEqProofs only [go_sem, ↓reduceIte, Nat.reduceEqDiff, Nat.reduceLT, Nat.reduceLeDiff, Nat.reduceAdd, Nat.reduceMul, Nat.reduceSub, Nat.reduceBEq, Int.reduceToNat, Int.reduceLT, Int.reduceLE, Int.reduceEq, Int.reduceNe, Int.reduceBEq, Int.reduceBNe, Int.reduceAdd, Int.reduceSub, Int.natCast_nonneg, Bool.false_eq_true, Bool.true_eq_false, eq_self, h1, h2', h5, h6']
          refine hK8 _ (g36, l ++ r.l) (by rw [List.append_assoc]; exact hR') (Weak.st (by simp -implicitDefEqProofs only [go_sem, ↓reduceIte, Nat.reduceEqDiff, Nat.reduceLT, Nat.reduceLeDiff, Nat.reduceAdd, Nat.reduceMul, Nat.reduceSub, Nat.reduceBEq, Int.reduceToNat, Int.reduceLT, Int.reduceLE, Int.reduceEq, Int.reduceNe, Int.reduceBEq, Int.reduceBNe, Int.reduceAdd, Int.reduceSub, Int.natCast_nonneg, Bool.false_eq_true, Bool.true_eq_false, eq_self, h1, h2', h5, h6']) (by simp -implicitDefEqProofs only [go_sem, ↓reduceIte, Nat.reduceEqDiff, Nat.reduceLT, Nat.reduceLeDiff, Nat.reduceAdd, Nat.reduceMul, Nat.reduceSub, Nat.reduceBEq, Int.reduceToNat, Int.reduceLT, Int.reduceLE, Int.reduceEq, Int.reduceNe, Int.reduceBEq, Int.reduceBNe, Int.reduceAdd, Int.reduceSub, Int.natCast_nonneg, Bool.false_eq_true, Bool.true_eq_false, eq_self]))
        · subst h9
          rw [if_neg (fun h => by have := hcd.1 h; simp at this)] at hR'
          refine AW.skip ?_
          simp -implicitDefEqProofs only [go_sem, ↓reduceIte, Nat.reduceEqDiff, Nat.reduceLT, Nat.reduceLeDiff, Nat.reduceAdd, Nat.reduceMul, Nat.reduceSub, Nat.reduceBEq, Int.reduceToNat, Int.reduceLT, Int.reduceLE, Int.reduceEq, Int.reduceNe, Int.reduceBEq, Int.reduceBNe, Int.reduceAdd, Int.reduceSub, Int.natCast_nonneg, Bool.false_eq_true, Bool.true_eq_false, eq_self]
          refine hK8 _ (gx, l) (by simpa using hR') (Weak.st (by simp -implicitDefEqProofs only [go_sem, ↓reduceIte, Nat.reduceEqDiff, Nat.reduceLT, Nat.reduceLeDiff, Nat.reduceAdd, Nat.reduceMul, Nat.reduceSub, Nat.reduceBEq, Int.reduceToNat, Int.reduceLT, Int.reduceLE, Int.reduceEq, Int.reduceNe, Int.reduceBEq, Int.reduceBNe, Int.reduceAdd, Int.reduceSub, Int.natCast_nonneg, Bool.false_eq_true, Bool.true_eq_false, eq_self, h1, h2', h5, h6']) (by simp -implicitDefEqProofs only [go_sem, ↓reduceIte, Nat.reduceEqDiff, Nat.reduceLT, Nat.reduceLeDiff, Nat.reduceAdd, Nat.reduceMul, Nat.reduceSub, Nat.reduceBEq, Int.reduceToNat, Int.reduceLT, Int.reduceLE, Int.reduceEq, Int.reduceNe, Int.reduceBEq, Int.reduceBNe, Int.reduceAdd, Int.reduceSub, Int.natCast_nonneg, Bool.false_eq_true, Bool.true_eq_false, eq_self]))
      · rintro ⟨gy, m⟩ hRm
        refine AW.region (by kernel_rfl) ?_
        simp -implicitDefEqProofs only [go_sem, ↓reduceIte, Nat.reduceEqDiff, Nat.reduceLT, Nat.reduceLeDiff, Nat.reduceAdd, Nat.reduceMul, Nat.reduceSub, Nat.reduceBEq, Int.reduceToNat, Int.reduceLT, Int.reduceLE, Int.reduceEq, Int.reduceNe, Int.reduceBEq, Int.reduceBNe, Int.reduceAdd, Int.reduceSub, Int.natCast_nonneg, Bool.false_eq_true, Bool.true_eq_false, eq_self, hgi]
        refine CallA.pure hG (by kernel_rfl) ?_
        simp -implicitDefEqProofs only [go_sem, ↓reduceIte, Nat.reduceEqDiff, Nat.reduceLT, Nat.reduceLeDiff, Nat.reduceAdd, Nat.reduceMul, Nat.reduceSub, Nat.reduceBEq, Int.reduceToNat, Int.reduceLT, Int.reduceLE, Int.reduceEq, Int.reduceNe, Int.reduceBEq, Int.reduceBNe, Int.reduceAdd, Int.reduceSub, Int.natCast_nonneg, Bool.false_eq_true, Bool.true_eq_false, eq_self]
        have hih := size_spec G hG (p.dep + 1) c.ent p.ks.l[k] (by have := Pt.dep_kid hq; omega) (by omega) (.inr (hfk _ hq))
        rw [encPt_K] at hih
        refine hih.mono ?_
        rintro _ _ rfl
        simp -implicitDefEqProofs only [go_sem, ↓reduceIte, Nat.reduceEqDiff, Nat.reduceLT, Nat.reduceLeDiff, Nat.reduceAdd, Nat.reduceMul, Nat.reduceSub, Nat.reduceBEq, Int.reduceToNat, Int.reduceLT, Int.reduceLE, Int.reduceEq, Int.reduceNe, Int.reduceBEq, Int.reduceBNe, Int.reduceAdd, Int.reduceSub, Int.natCast_nonneg, Bool.false_eq_true, Bool.true_eq_false, eq_self]
        refine hK7 _ ?_
        refine AW.region (by kernel_rfl) ?_
        simp -implicitDefEqProofs only [go_sem, ↓reduceIte, Nat.reduceEqDiff, Nat.reduceLT, Nat.reduceLeDiff, Nat.reduceAdd, Nat.reduceMul, Nat.reduceSub, Nat.reduceBEq, Int.reduceToNat, Int.reduceLT, Int.reduceLE, Int.reduceEq, Int.reduceNe, Int.reduceBEq, Int.reduceBNe, Int.reduceAdd, Int.reduceSub, Int.natCast_nonneg, Bool.false_eq_true, Bool.true_eq_false, eq_self]
        refine hL4 _ ⟨hk1, (gy, m), hRm, Weak.st (by simp -implicitDefEqProofs only [go_sem, ↓reduceIte, Nat.reduceEqDiff, Nat.reduceLT, Nat.reduceLeDiff, Nat.reduceAdd, Nat.reduceMul, Nat.reduceSub, Nat.reduceBEq, Int.reduceToNat, Int.reduceLT, Int.reduceLE, Int.reduceEq, Int.reduceNe, Int.reduceBEq, Int.reduceBNe, Int.reduceAdd, Int.reduceSub, Int.natCast_nonneg, Bool.false_eq_true, Bool.true_eq_false, eq_self]; refine ⟨congrArg _ ?_, congrArg _ (w64 (by omega) (by omega))⟩; rw [List.take_succ_eq_append_getElem hk1, List.map_append, List.sum_append]; simp; rw [w64 (by omega) (by omega)]; omega) (by simp -implicitDefEqProofs only [go_sem, ↓reduceIte, Nat.reduceEqDiff, Nat.reduceLT, Nat.reduceLeDiff, Nat.reduceAdd, Nat.reduceMul, Nat.reduceSub, Nat.reduceBEq, Int.reduceToNat, Int.reduceLT, Int.reduceLE, Int.reduceEq, Int.reduceNe, Int.reduceBEq, Int.reduceBNe, Int.reduceAdd, Int.reduceSub, Int.natCast_nonneg, Bool.false_eq_true, Bool.true_eq_false, eq_self])⟩
    · -- false
      refine AW.exit ?_
      simp -implicitDefEqProofs only [go_sem, ↓reduceIte, Nat.reduceEqDiff, Nat.reduceLT, Nat.reduceLeDiff, Nat.reduceAdd, Nat.reduceMul, Nat.reduceSub, Nat.reduceBEq, Int.reduceToNat, Int.reduceLT, Int.reduceLE, Int.reduceEq, Int.reduceNe, Int.reduceBEq, Int.reduceBNe, Int.reduceAdd, Int.reduceSub, Int.natCast_nonneg, Bool.false_eq_true, Bool.true_eq_false, eq_self]
      refine hK3 _ ?_
      have hk1 : k = p.ks.l.length := by simp at h6; omega
      refine AW.seq_k fun K hK => AW.region (by kernel_rfl) ?_
      simp -implicitDefEqProofs only [go_sem, ↓reduceIte, Nat.reduceEqDiff, Nat.reduceLT, Nat.reduceLeDiff, Nat.reduceAdd, Nat.reduceMul, Nat.reduceSub, Nat.reduceBEq, Int.reduceToNat, Int.reduceLT, Int.reduceLE, Int.reduceEq, Int.reduceNe, Int.reduceBEq, Int.reduceBNe, Int.reduceAdd, Int.reduceSub, Int.natCast_nonneg, Bool.false_eq_true, Bool.true_eq_false, eq_self]
      refine hK _ ?_
      clear hK K
      refine AW.weak (Weak.stF (fun o => o == 36) (l := [(4, encSl .new 1 (V.int .i64) (grownS l))]) (m := []) ?_ trivial) ?_
      · simp -implicitDefEqProofs only [go_sem, ↓reduceIte, Nat.reduceEqDiff, Nat.reduceLT, Nat.reduceLeDiff, Nat.reduceAdd, Nat.reduceMul, Nat.reduceSub, Nat.reduceBEq, Int.reduceToNat, Int.reduceLT, Int.reduceLE, Int.reduceEq, Int.reduceNe, Int.reduceBEq, Int.reduceBNe, Int.reduceAdd, Int.reduceSub, Int.natCast_nonneg, Bool.false_eq_true, Bool.true_eq_false, eq_self]
        exact Fz.grown rfl rfl (fun _ => rfl)
      refine AW.ret ?_
      simp -implicitDefEqProofs only [go_sem, ↓reduceIte, Nat.reduceEqDiff, Nat.reduceLT, Nat.reduceLeDiff, Nat.reduceAdd, Nat.reduceMul, Nat.reduceSub, Nat.reduceBEq, Int.reduceToNat, Int.reduceLT, Int.reduceLE, Int.reduceEq, Int.reduceNe, Int.reduceBEq, Int.reduceBNe, Int.reduceAdd, Int.reduceSub, Int.natCast_nonneg, Bool.false_eq_true, Bool.true_eq_false, eq_self]
      refine endK_some ?_
      rw [← hR, hk1]
      simp [T.readys]
end Go.Hs
end
