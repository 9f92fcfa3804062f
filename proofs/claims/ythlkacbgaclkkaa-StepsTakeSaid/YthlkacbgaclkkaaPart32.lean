/- Part 32 of the proof of a statement of seat Ythlkacbgaclkkaa: HsF11 HsF03. -/
import Derived.Test.YthlkacbgaclkkaaPart31
import Derived.Test.YthlkacbgaclkkaaPart29
set_option linter.unusedSimpArgs false
set_option linter.unusedVariables false
section
namespace Go.Hs
open Go.Proofs
set_option maxRecDepth 10000

/- hopscotch/hopscotchref22.Row -/
theorem rRow_spec (G : Nat → V) (hG : GOk G) : ∀ (n : Nat) (p : Pt), p.dep ≤ n → (p.op = 0 ∨ p.v.full = true) → p.v.size < 1000000000 →
    Spec Try.prog G 11 [encPt .any p] hNone (fun v _ => v = encNds .new .new (grownS p.v.row)) := by
  intro n
  induction n with
  | zero => intro p hd; obtain ⟨_, _, _, _⟩ := p; simp [Pt.dep] at hd
  | succ n ih =>
  intro p hd hf hs
  refine Spec.of_code' 0 91 [.tmp 2] Try.func11 rfl rfl rfl rfl fun X => ?_
  refine AW.seq_k fun K hK => AW.region (by kernel_rfl) ?_
  simp -implicitDefEqProofs only [go_sem, ↓reduceIte, Nat.reduceEqDiff, Nat.reduceLT, Nat.reduceLeDiff, Nat.reduceAdd, Nat.reduceMul, Nat.reduceSub, Nat.reduceBEq, Int.reduceToNat, Int.reduceLT, Int.reduceLE, Int.reduceEq, Int.reduceNe, Int.reduceBEq, Int.reduceBNe, Int.reduceAdd, Int.reduceSub, Int.natCast_nonneg, Bool.false_eq_true, Bool.true_eq_false, eq_self]
  intro g1
  refine hK _ ?_
  clear hK K
  refine AW.seq_k fun K hK => AW.region (by kernel_rfl) ?_
  simp -implicitDefEqProofs only [go_sem, ↓reduceIte, Nat.reduceEqDiff, Nat.reduceLT, Nat.reduceLeDiff, Nat.reduceAdd, Nat.reduceMul, Nat.reduceSub, Nat.reduceBEq, Int.reduceToNat, Int.reduceLT, Int.reduceLE, Int.reduceEq, Int.reduceNe, Int.reduceBEq, Int.reduceBNe, Int.reduceAdd, Int.reduceSub, Int.natCast_nonneg, Bool.false_eq_true, Bool.true_eq_false, eq_self]
  refine hK _ ?_
  clear hK K
  refine AW.seq_k fun K1 hK1 => ?_
  refine AW.seq_k fun K hK => AW.region (by kernel_rfl) ?_
  simp -implicitDefEqProofs only [go_sem, ↓reduceIte, Nat.reduceEqDiff, Nat.reduceLT, Nat.reduceLeDiff, Nat.reduceAdd, Nat.reduceMul, Nat.reduceSub, Nat.reduceBEq, Int.reduceToNat, Int.reduceLT, Int.reduceLE, Int.reduceEq, Int.reduceNe, Int.reduceBEq, Int.reduceBNe, Int.reduceAdd, Int.reduceSub, Int.natCast_nonneg, Bool.false_eq_true, Bool.true_eq_false, eq_self]
  refine hK _ ?_
  clear hK K
  refine AW.condS (by simp -implicitDefEqProofs only [go_sem, ↓reduceIte, Nat.reduceEqDiff, Nat.reduceLT, Nat.reduceLeDiff, Nat.reduceAdd, Nat.reduceMul, Nat.reduceSub, Nat.reduceBEq, Int.reduceToNat, Int.reduceLT, Int.reduceLE, Int.reduceEq, Int.reduceNe, Int.reduceBEq, Int.reduceBNe, Int.reduceAdd, Int.reduceSub, Int.natCast_nonneg, Bool.false_eq_true, Bool.true_eq_false, eq_self]; rfl) (fun h2 => ?_) (fun h2 => ?_)
  · -- true
    refine AW.seq_k fun K hK => AW.region (by kernel_rfl) ?_
    simp -implicitDefEqProofs only [go_sem, ↓reduceIte, Nat.reduceEqDiff, Nat.reduceLT, Nat.reduceLeDiff, Nat.reduceAdd, Nat.reduceMul, Nat.reduceSub, Nat.reduceBEq, Int.reduceToNat, Int.reduceLT, Int.reduceLE, Int.reduceEq, Int.reduceNe, Int.reduceBEq, Int.reduceBNe, Int.reduceAdd, Int.reduceSub, Int.natCast_nonneg, Bool.false_eq_true, Bool.true_eq_false, eq_self]
    refine hK _ ?_
    clear hK K
    refine AW.ret ?_
    simp -implicitDefEqProofs only [go_sem, ↓reduceIte, Nat.reduceEqDiff, Nat.reduceLT, Nat.reduceLeDiff, Nat.reduceAdd, Nat.reduceMul, Nat.reduceSub, Nat.reduceBEq, Int.reduceToNat, Int.reduceLT, Int.reduceLE, Int.reduceEq, Int.reduceNe, Int.reduceBEq, Int.reduceBNe, Int.reduceAdd, Int.reduceSub, Int.natCast_nonneg, Bool.false_eq_true, Bool.true_eq_false, eq_self]
    refine endK_some ?_
    have h0 : p.v.op = 0 := by rw [Pt.op_v]; simpa using h2
    rw [T.row_K, if_pos h0]
    rfl
  · -- false
    refine AW.skip ?_
    simp -implicitDefEqProofs only [go_sem, ↓reduceIte, Nat.reduceEqDiff, Nat.reduceLT, Nat.reduceLeDiff, Nat.reduceAdd, Nat.reduceMul, Nat.reduceSub, Nat.reduceBEq, Int.reduceToNat, Int.reduceLT, Int.reduceLE, Int.reduceEq, Int.reduceNe, Int.reduceBEq, Int.reduceBNe, Int.reduceAdd, Int.reduceSub, Int.natCast_nonneg, Bool.false_eq_true, Bool.true_eq_false, eq_self]
    refine hK1 _ ?_
    have h0 : p.op ≠ 0 := by simpa using h2
    have hf : p.v.full = true := hf.resolve_left h0
    have hrow : p.v.row = T.rows (p.ks.l.map Pt.v) 0 ++ [⟨p.op, p.pl, grownS (T.rowKids (p.ks.l.map Pt.v) 0)⟩] := by
      rw [T.row_K, if_neg (by rw [Pt.op_v]; exact h0), Pt.kids_v, Pt.op_v, Pt.pl_v]
    have hkl := T.full_kids hf
    rw [Pt.kids_v, List.length_map] at hkl
    have hfk : ∀ q ∈ p.ks.l, q.v.full = true := fun q hq => ((T.full_K _).1 hf).2 _ (by rw [Pt.kids_v]; exact List.mem_map_of_mem hq)
    have hsz : p.v.size = 1 + (p.ks.l.map fun q => q.v.size).sum := by
      rw [T.size_K, if_neg ((T.full_K _).1 hf).1, Pt.kids_v, List.map_map]; rfl
    have hrl := T.row_len _ hf
    refine AW.seq_k fun K hK => AW.region (by kernel_rfl) ?_
    simp -implicitDefEqProofs only [go_sem, ↓reduceIte, Nat.reduceEqDiff, Nat.reduceLT, Nat.reduceLeDiff, Nat.reduceAdd, Nat.reduceMul, Nat.reduceSub, Nat.reduceBEq, Int.reduceToNat, Int.reduceLT, Int.reduceLE, Int.reduceEq, Int.reduceNe, Int.reduceBEq, Int.reduceBNe, Int.reduceAdd, Int.reduceSub, Int.natCast_nonneg, Bool.false_eq_true, Bool.true_eq_false, eq_self]
    refine hK _ ?_
    clear hK K
    refine AW.seq_k fun K3 hK3 => ?_
    refine AW.seq_k fun K hK => AW.region (by kernel_rfl) ?_
    simp -implicitDefEqProofs only [go_sem, ↓reduceIte, Nat.reduceEqDiff, Nat.reduceLT, Nat.reduceLeDiff, Nat.reduceAdd, Nat.reduceMul, Nat.reduceSub, Nat.reduceBEq, Int.reduceToNat, Int.reduceLT, Int.reduceLE, Int.reduceEq, Int.reduceNe, Int.reduceBEq, Int.reduceBNe, Int.reduceAdd, Int.reduceSub, Int.natCast_nonneg, Bool.false_eq_true, Bool.true_eq_false, eq_self]
    refine hK _ ?_
    clear hK K
    refine AW.block ?_
    refine AW.for p.ks.l.length (fun k (x : (Nat × List Nd) × (Nat × List Int)) => st [(1, .ptr 1 g1 0), (3, grown 75 x.1.1 3 x.1.2), (4, grown 81 x.2.1 1 x.2.2), (5, .int .i64 k)]
        [(1, .cells .new g1 0 [.int .u8 p.op, .int .i64 p.pl, encSl .any 3 (encPt .any) p.ks]), (75, grownO x.1.1 (encNd .new) x.1.2), (81, grownO x.2.1 (V.int .i64) x.2.2)])
      (fun k x => x.1.2 ++ T.rows ((p.ks.l.drop k).map Pt.v) x.1.2.length = T.rows (p.ks.l.map Pt.v) 0 ∧ x.2.2 ++ T.rowKids ((p.ks.l.drop k).map Pt.v) x.1.2.length = T.rowKids (p.ks.l.map Pt.v) 0) 0 ((0, []), (0, [])) (Nat.zero_le _) (by simp)
      (Weak.st (by simp -implicitDefEqProofs only [go_sem, ↓reduceIte, Nat.reduceEqDiff, Nat.reduceLT, Nat.reduceLeDiff, Nat.reduceAdd, Nat.reduceMul, Nat.reduceSub, Nat.reduceBEq, Int.reduceToNat, Int.reduceLT, Int.reduceLE, Int.reduceEq, Int.reduceNe, Int.reduceBEq, Int.reduceBNe, Int.reduceAdd, Int.reduceSub, Int.natCast_nonneg, Bool.false_eq_true, Bool.true_eq_false, eq_self] <;> simp [grown]) (by simp -implicitDefEqProofs only [go_sem, ↓reduceIte, Nat.reduceEqDiff, Nat.reduceLT, Nat.reduceLeDiff, Nat.reduceAdd, Nat.reduceMul, Nat.reduceSub, Nat.reduceBEq, Int.reduceToNat, Int.reduceLT, Int.reduceLE, Int.reduceEq, Int.reduceNe, Int.reduceBEq, Int.reduceBNe, Int.reduceAdd, Int.reduceSub, Int.natCast_nonneg, Bool.false_eq_true, Bool.true_eq_false, eq_self] <;> exact ⟨rfl, rfl⟩)) ?_
    rintro k ⟨⟨ga, out⟩, ⟨gb, kids⟩⟩ hk ⟨hR1, hR2⟩ L4 hL4
    refine AW.seq_k fun K5 hK5 => ?_
    refine AW.seq_k fun K hK => AW.region (by kernel_rfl) ?_
    simp -implicitDefEqProofs only [go_sem, ↓reduceIte, Nat.reduceEqDiff, Nat.reduceLT, Nat.reduceLeDiff, Nat.reduceAdd, Nat.reduceMul, Nat.reduceSub, Nat.reduceBEq, Int.reduceToNat, Int.reduceLT, Int.reduceLE, Int.reduceEq, Int.reduceNe, Int.reduceBEq, Int.reduceBNe, Int.reduceAdd, Int.reduceSub, Int.natCast_nonneg, Bool.false_eq_true, Bool.true_eq_false, eq_self]
    refine hK _ ?_
    clear hK K
    refine AW.condS (by simp -implicitDefEqProofs only [go_sem, ↓reduceIte, Nat.reduceEqDiff, Nat.reduceLT, Nat.reduceLeDiff, Nat.reduceAdd, Nat.reduceMul, Nat.reduceSub, Nat.reduceBEq, Int.reduceToNat, Int.reduceLT, Int.reduceLE, Int.reduceEq, Int.reduceNe, Int.reduceBEq, Int.reduceBNe, Int.reduceAdd, Int.reduceSub, Int.natCast_nonneg, Bool.false_eq_true, Bool.true_eq_false, eq_self]; rfl) (fun h6 => ?_) (fun h6 => ?_)
    · -- true
      refine AW.skip ?_
      simp -implicitDefEqProofs only [go_sem, ↓reduceIte, Nat.reduceEqDiff, Nat.reduceLT, Nat.reduceLeDiff, Nat.reduceAdd, Nat.reduceMul, Nat.reduceSub, Nat.reduceBEq, Int.reduceToNat, Int.reduceLT, Int.reduceLE, Int.reduceEq, Int.reduceNe, Int.reduceBEq, Int.reduceBNe, Int.reduceAdd, Int.reduceSub, Int.natCast_nonneg, Bool.false_eq_true, Bool.true_eq_false, eq_self]
      refine hK5 _ ?_
      have hk1 : k < p.ks.l.length := by simpa using h6
      have hgi := List.getElem?_eq_getElem hk1
      have hq := List.getElem_mem hk1
      generalize hqd : p.ks.l[k] = q at hq hgi
      rw [List.drop_eq_getElem_cons hk1, List.map_cons, hqd, T.rows] at hR1
      rw [List.drop_eq_getElem_cons hk1, List.map_cons, hqd, T.rowKids] at hR2
      have hfq := hfk q hq
      have hqs : q.v.size < p.v.size := by
        have := sum_le_of_mem (List.mem_map_of_mem (f := fun q : Pt => q.v.size) hq)
        omega
      have hql := T.row_len _ hfq
      have hol : out.length + q.v.row.length < 1000000000 := by
        have h1 := congrArg List.length hR1
        have h2 := congrArg List.length hrow
        simp at h1 h2
        omega
      have hkl2 : kids.length < 1000000000 := by
        have h1 := congrArg List.length hR2
        rw [T.kids_len] at h1
        simp at h1
        omega
      refine AW.seq_k fun K7 hK7 => ?_
      refine AW.block ?_
      refine AW.seq_k fun K hK => AW.region (by kernel_rfl) ?_
      simp -implicitDefEqProofs only [go_sem, ↓reduceIte, Nat.reduceEqDiff, Nat.reduceLT, Nat.reduceLeDiff, Nat.reduceAdd, Nat.reduceMul, Nat.reduceSub, Nat.reduceBEq, Int.reduceToNat, Int.reduceLT, Int.reduceLE, Int.reduceEq, Int.reduceNe, Int.reduceBEq, Int.reduceBNe, Int.reduceAdd, Int.reduceSub, Int.natCast_nonneg, Bool.false_eq_true, Bool.true_eq_false, eq_self, hgi]
      refine CallA.pure hG (by kernel_rfl) ?_
      simp -implicitDefEqProofs only [go_sem, ↓reduceIte, Nat.reduceEqDiff, Nat.reduceLT, Nat.reduceLeDiff, Nat.reduceAdd, Nat.reduceMul, Nat.reduceSub, Nat.reduceBEq, Int.reduceToNat, Int.reduceLT, Int.reduceLE, Int.reduceEq, Int.reduceNe, Int.reduceBEq, Int.reduceBNe, Int.reduceAdd, Int.reduceSub, Int.natCast_nonneg, Bool.false_eq_true, Bool.true_eq_false, eq_self]
      have hih := ih q (by have := Pt.dep_kid hq; omega) (.inr hfq) (by omega)
      rw [encPt_K] at hih
      refine hih.mono ?_
      rintro _ _ rfl
      simp -implicitDefEqProofs only [go_sem, ↓reduceIte, Nat.reduceEqDiff, Nat.reduceLT, Nat.reduceLeDiff, Nat.reduceAdd, Nat.reduceMul, Nat.reduceSub, Nat.reduceBEq, Int.reduceToNat, Int.reduceLT, Int.reduceLE, Int.reduceEq, Int.reduceNe, Int.reduceBEq, Int.reduceBNe, Int.reduceAdd, Int.reduceSub, Int.natCast_nonneg, Bool.false_eq_true, Bool.true_eq_false, eq_self]
      refine hK _ ?_
      clear hK K
      refine AW.seq_k fun K hK => AW.region (by kernel_rfl) ?_
      simp -implicitDefEqProofs only [go_sem, ↓reduceIte, Nat.reduceEqDiff, Nat.reduceLT, Nat.reduceLeDiff, Nat.reduceAdd, Nat.reduceMul, Nat.reduceSub, Nat.reduceBEq, Int.reduceToNat, Int.reduceLT, Int.reduceLE, Int.reduceEq, Int.reduceNe, Int.reduceBEq, Int.reduceBNe, Int.reduceAdd, Int.reduceSub, Int.natCast_nonneg, Bool.false_eq_true, Bool.true_eq_false, eq_self]
      refine hK _ ?_
      clear hK K
      refine AW.seq_k fun K8 hK8 => ?_
      refine AW.seq_k fun K hK => AW.region (by kernel_rfl) ?_
      simp -implicitDefEqProofs only [go_sem, ↓reduceIte, Nat.reduceEqDiff, Nat.reduceLT, Nat.reduceLeDiff, Nat.reduceAdd, Nat.reduceMul, Nat.reduceSub, Nat.reduceBEq, Int.reduceToNat, Int.reduceLT, Int.reduceLE, Int.reduceEq, Int.reduceNe, Int.reduceBEq, Int.reduceBNe, Int.reduceAdd, Int.reduceSub, Int.natCast_nonneg, Bool.false_eq_true, Bool.true_eq_false, eq_self]
      refine hK _ ?_
      clear hK K
      refine AW.block ?_
      refine AW.for q.v.row.length (fun j (x : Nat × List Nd) => st [(1, .ptr 1 g1 0), (3, grown 75 x.1 3 x.2), (4, grown 81 gb 1 kids), (5, .int .i64 k), (6, encSl .new 3 (encNd .new) (grownS q.v.row)), (7, .int .i64 out.length), (8, .int .i64 j)]
          [(1, .cells .new g1 0 [.int .u8 p.op, .int .i64 p.pl, encSl .any 3 (encPt .any) p.ks]), (75, grownO x.1 (encNd .new) x.2), (81, grownO gb (V.int .i64) kids)])
        (fun j x => x.2 = out ++ (q.v.row.take j).map (Nd.shift out.length)) 0 (ga, out) (Nat.zero_le _) (by simp)
        (Weak.st (by simp -implicitDefEqProofs only [go_sem, ↓reduceIte, Nat.reduceEqDiff, Nat.reduceLT, Nat.reduceLeDiff, Nat.reduceAdd, Nat.reduceMul, Nat.reduceSub, Nat.reduceBEq, Int.reduceToNat, Int.reduceLT, Int.reduceLE, Int.reduceEq, Int.reduceNe, Int.reduceBEq, Int.reduceBNe, Int.reduceAdd, Int.reduceSub, Int.natCast_nonneg, Bool.false_eq_true, Bool.true_eq_false, eq_self] <;> simp) (by simp -implicitDefEqProofs only [go_sem, ↓reduceIte, Nat.reduceEqDiff, Nat.reduceLT, Nat.reduceLeDiff, Nat.reduceAdd, Nat.reduceMul, Nat.reduceSub, Nat.reduceBEq, Int.reduceToNat, Int.reduceLT, Int.reduceLE, Int.reduceEq, Int.reduceNe, Int.reduceBEq, Int.reduceBNe, Int.reduceAdd, Int.reduceSub, Int.natCast_nonneg, Bool.false_eq_true, Bool.true_eq_false, eq_self])) ?_
      rintro j ⟨gc, out2⟩ hj hRj L9 hL9
      refine AW.seq_k fun K10 hK10 => ?_
      refine AW.seq_k fun K hK => AW.region (by kernel_rfl) ?_
      simp -implicitDefEqProofs only [go_sem, ↓reduceIte, Nat.reduceEqDiff, Nat.reduceLT, Nat.reduceLeDiff, Nat.reduceAdd, Nat.reduceMul, Nat.reduceSub, Nat.reduceBEq, Int.reduceToNat, Int.reduceLT, Int.reduceLE, Int.reduceEq, Int.reduceNe, Int.reduceBEq, Int.reduceBNe, Int.reduceAdd, Int.reduceSub, Int.natCast_nonneg, Bool.false_eq_true, Bool.true_eq_false, eq_self, grownS_l]
      refine hK _ ?_
      clear hK K
      refine AW.condS (by simp -implicitDefEqProofs only [go_sem, ↓reduceIte, Nat.reduceEqDiff, Nat.reduceLT, Nat.reduceLeDiff, Nat.reduceAdd, Nat.reduceMul, Nat.reduceSub, Nat.reduceBEq, Int.reduceToNat, Int.reduceLT, Int.reduceLE, Int.reduceEq, Int.reduceNe, Int.reduceBEq, Int.reduceBNe, Int.reduceAdd, Int.reduceSub, Int.natCast_nonneg, Bool.false_eq_true, Bool.true_eq_false, eq_self]; rfl) (fun h11 => ?_) (fun h11 => ?_)
      · -- true
        refine AW.skip ?_
        simp -implicitDefEqProofs only [go_sem, ↓reduceIte, Nat.reduceEqDiff, Nat.reduceLT, Nat.reduceLeDiff, Nat.reduceAdd, Nat.reduceMul, Nat.reduceSub, Nat.reduceBEq, Int.reduceToNat, Int.reduceLT, Int.reduceLE, Int.reduceEq, Int.reduceNe, Int.reduceBEq, Int.reduceBNe, Int.reduceAdd, Int.reduceSub, Int.natCast_nonneg, Bool.false_eq_true, Bool.true_eq_false, eq_self]
        refine hK10 _ ?_
        have hj1 : j < q.v.row.length := by simpa using h11
        have hgj : q.v.row[j]? = some q.v.row[j] := List.getElem?_eq_getElem hj1
        have hnm := List.getElem_mem hj1
        generalize hnd : q.v.row[j] = nd at hnm hgj
        refine AW.seq_k fun K12 hK12 => ?_
        refine AW.block ?_
        refine AW.seq_k fun K hK => AW.regionT ⟨fun _ => .top, fun _ => .pure⟩ (by kernel_rfl) hG (by kernel_rfl) (by kernel_rfl) ?_
        simp -implicitDefEqProofs only [go_sem, ↓reduceIte, Nat.reduceEqDiff, Nat.reduceLT, Nat.reduceLeDiff, Nat.reduceAdd, Nat.reduceMul, Nat.reduceSub, Nat.reduceBEq, Int.reduceToNat, Int.reduceLT, Int.reduceLE, Int.reduceEq, Int.reduceNe, Int.reduceBEq, Int.reduceBNe, Int.reduceAdd, Int.reduceSub, Int.natCast_nonneg, Bool.false_eq_true, Bool.true_eq_false, eq_self, hgj]
        intro g9
        refine hK _ ?_
        clear hK K
        refine AW.seq_k fun K13 hK13 => ?_
        refine AW.seq_k fun K hK => AW.region (by kernel_rfl) ?_
        simp -implicitDefEqProofs only [go_sem, ↓reduceIte, Nat.reduceEqDiff, Nat.reduceLT, Nat.reduceLeDiff, Nat.reduceAdd, Nat.reduceMul, Nat.reduceSub, Nat.reduceBEq, Int.reduceToNat, Int.reduceLT, Int.reduceLE, Int.reduceEq, Int.reduceNe, Int.reduceBEq, Int.reduceBNe, Int.reduceAdd, Int.reduceSub, Int.natCast_nonneg, Bool.false_eq_true, Bool.true_eq_false, eq_self]
        refine hK _ ?_
        clear hK K
        refine AW.block ?_
        refine AW.for nd.kids.l.length (fun i (x : Nat × List Int) => st [(1, .ptr 1 g1 0), (3, grown 75 gc 3 out2), (4, grown 81 gb 1 kids), (5, .int .i64 k), (6, encSl .new 3 (encNd .new) (grownS q.v.row)), (7, .int .i64 out.length), (8, .int .i64 j), (9, .ptr 9 g9 0), (10, .int .i64 i)]
            [(1, .cells .new g1 0 [.int .u8 p.op, .int .i64 p.pl, encSl .any 3 (encPt .any) p.ks]), (75, grownO gc (encNd .new) out2), (81, grownO gb (V.int .i64) kids), (9, .cells .new g9 0 [.int .u8 nd.op, .int .i64 nd.pl, grown 70 x.1 1 x.2]), (70, grownO x.1 (V.int .i64) x.2)])
          (fun i x => x.2 = (nd.kids.l.take i).map fun y => y + (out.length : Int)) 0 (0, []) (Nat.zero_le _) (by simp)
          (Weak.st (by simp -implicitDefEqProofs only [go_sem, ↓reduceIte, Nat.reduceEqDiff, Nat.reduceLT, Nat.reduceLeDiff, Nat.reduceAdd, Nat.reduceMul, Nat.reduceSub, Nat.reduceBEq, Int.reduceToNat, Int.reduceLT, Int.reduceLE, Int.reduceEq, Int.reduceNe, Int.reduceBEq, Int.reduceBNe, Int.reduceAdd, Int.reduceSub, Int.natCast_nonneg, Bool.false_eq_true, Bool.true_eq_false, eq_self] <;> simp) (by simp -implicitDefEqProofs only [go_sem, ↓reduceIte, Nat.reduceEqDiff, Nat.reduceLT, Nat.reduceLeDiff, Nat.reduceAdd, Nat.reduceMul, Nat.reduceSub, Nat.reduceBEq, Int.reduceToNat, Int.reduceLT, Int.reduceLE, Int.reduceEq, Int.reduceNe, Int.reduceBEq, Int.reduceBNe, Int.reduceAdd, Int.reduceSub, Int.natCast_nonneg, Bool.false_eq_true, Bool.true_eq_false, eq_self] <;> exact ⟨rfl, rfl⟩)) ?_
        rintro i ⟨gd, ks⟩ hi hRi L14 hL14
        have hRi : ks = (nd.kids.l.take i).map fun y => y + (out.length : Int) := hRi
        have hnl := T.row_klen _ hfq nd hnm
        refine AW.seq_k fun K15 hK15 => ?_
        refine AW.seq_k fun K hK => AW.region (by kernel_rfl) ?_
        simp -implicitDefEqProofs only [go_sem, ↓reduceIte, Nat.reduceEqDiff, Nat.reduceLT, Nat.reduceLeDiff, Nat.reduceAdd, Nat.reduceMul, Nat.reduceSub, Nat.reduceBEq, Int.reduceToNat, Int.reduceLT, Int.reduceLE, Int.reduceEq, Int.reduceNe, Int.reduceBEq, Int.reduceBNe, Int.reduceAdd, Int.reduceSub, Int.natCast_nonneg, Bool.false_eq_true, Bool.true_eq_false, eq_self, hgj]
        refine hK _ ?_
        clear hK K
        refine AW.condS (by simp -implicitDefEqProofs only [go_sem, ↓reduceIte, Nat.reduceEqDiff, Nat.reduceLT, Nat.reduceLeDiff, Nat.reduceAdd, Nat.reduceMul, Nat.reduceSub, Nat.reduceBEq, Int.reduceToNat, Int.reduceLT, Int.reduceLE, Int.reduceEq, Int.reduceNe, Int.reduceBEq, Int.reduceBNe, Int.reduceAdd, Int.reduceSub, Int.natCast_nonneg, Bool.false_eq_true, Bool.true_eq_false, eq_self]; rfl) (fun h16 => ?_) (fun h16 => ?_)
        · -- true
          refine AW.skip ?_
          simp -implicitDefEqProofs only [go_sem, ↓reduceIte, Nat.reduceEqDiff, Nat.reduceLT, Nat.reduceLeDiff, Nat.reduceAdd, Nat.reduceMul, Nat.reduceSub, Nat.reduceBEq, Int.reduceToNat, Int.reduceLT, Int.reduceLE, Int.reduceEq, Int.reduceNe, Int.reduceBEq, Int.reduceBNe, Int.reduceAdd, Int.reduceSub, Int.natCast_nonneg, Bool.false_eq_true, Bool.true_eq_false, eq_self]
          refine hK15 _ ?_
          have hi1 : i < nd.kids.l.length := by simpa using h16
          have hgk : nd.kids.l[i]? = some nd.kids.l[i] := List.getElem?_eq_getElem hi1
          have hv := T.row_kids _ hfq nd hnm _ (List.getElem_mem hi1)
          refine AW.seq_k fun K17 hK17 => ?_
          refine AW.block ?_
          refine AW.regionT ⟨fun _ => .top, fun _ => .pure⟩ (by kernel_rfl) hG (by kernel_rfl) (by kernel_rfl) ?_
          simp -implicitDefEqProofs only [go_sem, ↓reduceIte, Nat.reduceEqDiff, Nat.reduceLT, Nat.reduceLeDiff, Nat.reduceAdd, Nat.reduceMul, Nat.reduceSub, Nat.reduceBEq, Int.reduceToNat, Int.reduceLT, Int.reduceLE, Int.reduceEq, Int.reduceNe, Int.reduceBEq, Int.reduceBNe, Int.reduceAdd, Int.reduceSub, Int.natCast_nonneg, Bool.false_eq_true, Bool.true_eq_false, eq_self, hgj, hgk]
          intro g69
          refine app_grown (f := V.int .i64) (l := ks) (l2 := [nd.kids.l[i] + (out.length : Int)]) (g := gd) (fun _ => rfl) rfl (by rw [w64 (by omega) (by omega)]; rfl) rfl rfl (roomOk_of (by omega) (by rw [hRi]; simp; omega)) fun g70 => ?_
          simp -implicitDefEqProofs only [go_sem, ↓reduceIte, Nat.reduceEqDiff, Nat.reduceLT, Nat.reduceLeDiff, Nat.reduceAdd, Nat.reduceMul, Nat.reduceSub, Nat.reduceBEq, Int.reduceToNat, Int.reduceLT, Int.reduceLE, Int.reduceEq, Int.reduceNe, Int.reduceBEq, Int.reduceBNe, Int.reduceAdd, Int.reduceSub, Int.natCast_nonneg, Bool.false_eq_true, Bool.true_eq_false, eq_self]
          refine hK17 _ ?_
          refine AW.region (by kernel_rfl) ?_
          simp -implicitDefEqProofs only [go_sem, ↓reduceIte, Nat.reduceEqDiff, Nat.reduceLT, Nat.reduceLeDiff, Nat.reduceAdd, Nat.reduceMul, Nat.reduceSub, Nat.reduceBEq, Int.reduceToNat, Int.reduceLT, Int.reduceLE, Int.reduceEq, Int.reduceNe, Int.reduceBEq, Int.reduceBNe, Int.reduceAdd, Int.reduceSub, Int.natCast_nonneg, Bool.false_eq_true, Bool.true_eq_false, eq_self]
          refine hL14 _ ⟨hi1, (g70, ks ++ [nd.kids.l[i] + (out.length : Int)]), ?_, Weak.st (by simp -implicitDefEqProofs only [go_sem, ↓reduceIte, Nat.reduceEqDiff, Nat.reduceLT, Nat.reduceLeDiff, Nat.reduceAdd, Nat.reduceMul, Nat.reduceSub, Nat.reduceBEq, Int.reduceToNat, Int.reduceLT, Int.reduceLE, Int.reduceEq, Int.reduceNe, Int.reduceBEq, Int.reduceBNe, Int.reduceAdd, Int.reduceSub, Int.natCast_nonneg, Bool.false_eq_true, Bool.true_eq_false, eq_self]; exact congrArg _ (w64 (by omega) (by omega))) (by simp -implicitDefEqProofs only [go_sem, ↓reduceIte, Nat.reduceEqDiff, Nat.reduceLT, Nat.reduceLeDiff, Nat.reduceAdd, Nat.reduceMul, Nat.reduceSub, Nat.reduceBEq, Int.reduceToNat, Int.reduceLT, Int.reduceLE, Int.reduceEq, Int.reduceNe, Int.reduceBEq, Int.reduceBNe, Int.reduceAdd, Int.reduceSub, Int.natCast_nonneg, Bool.false_eq_true, Bool.true_eq_false, eq_self])⟩
          rw [List.take_succ_eq_append_getElem hi1, List.map_append, ← hRi]
          rfl
        · -- false
          refine AW.exit ?_
          simp -implicitDefEqProofs only [go_sem, ↓reduceIte, Nat.reduceEqDiff, Nat.reduceLT, Nat.reduceLeDiff, Nat.reduceAdd, Nat.reduceMul, Nat.reduceSub, Nat.reduceBEq, Int.reduceToNat, Int.reduceLT, Int.reduceLE, Int.reduceEq, Int.reduceNe, Int.reduceBEq, Int.reduceBNe, Int.reduceAdd, Int.reduceSub, Int.natCast_nonneg, Bool.false_eq_true, Bool.true_eq_false, eq_self]
          refine hK13 _ ?_
          have hi1 : i = nd.kids.l.length := by simp at h16; omega
          have hks : ks = nd.kids.l.map fun y => y + (out.length : Int) := by rw [hRi, hi1, List.take_length]
          refine AW.weak (Weak.stF (fun o => o == 70) (l := [(1, .ptr 1 g1 0), (3, grown 75 gc 3 out2), (4, grown 81 gb 1 kids), (5, .int .i64 k), (6, encSl .new 3 (encNd .new) (grownS q.v.row)), (7, .int .i64 out.length), (8, .int .i64 j), (9, .ptr 9 g9 0)])
            (m := [(1, .cells .new g1 0 [.int .u8 p.op, .int .i64 p.pl, encSl .any 3 (encPt .any) p.ks]), (75, grownO gc (encNd .new) out2), (81, grownO gb (V.int .i64) kids), (9, .cells .new g9 0 [.int .u8 nd.op, .int .i64 nd.pl, encSl .new 1 (V.int .i64) (grownS ks)])]) ?_ ?_) ?_
          · simp -implicitDefEqProofs only [go_sem, ↓reduceIte, Nat.reduceEqDiff, Nat.reduceLT, Nat.reduceLeDiff, Nat.reduceAdd, Nat.reduceMul, Nat.reduceSub, Nat.reduceBEq, Int.reduceToNat, Int.reduceLT, Int.reduceLE, Int.reduceEq, Int.reduceNe, Int.reduceBEq, Int.reduceBNe, Int.reduceAdd, Int.reduceSub, Int.natCast_nonneg, Bool.false_eq_true, Bool.true_eq_false, eq_self]
            exact ⟨Fz.same _, Fz.same _, Fz.same _, Fz.same _, Fz.same _, Fz.same _, Fz.same _, Fz.same _⟩
          · simp only [allFzO_cons, allFzO_nil, and_true]
            exact ⟨FzO.same rfl, FzO.same rfl, FzO.same rfl, FzO.of rfl rfl ⟨Fz.same _, Fz.same _, Fz.grown rfl rfl (fun _ => rfl), trivial⟩⟩
          refine AW.region (by kernel_rfl) ?_
          simp -implicitDefEqProofs only [go_sem, ↓reduceIte, Nat.reduceEqDiff, Nat.reduceLT, Nat.reduceLeDiff, Nat.reduceAdd, Nat.reduceMul, Nat.reduceSub, Nat.reduceBEq, Int.reduceToNat, Int.reduceLT, Int.reduceLE, Int.reduceEq, Int.reduceNe, Int.reduceBEq, Int.reduceBNe, Int.reduceAdd, Int.reduceSub, Int.natCast_nonneg, Bool.false_eq_true, Bool.true_eq_false, eq_self]
          intro g74
          refine app_grown (f := encNd .new) (l := out2) (l2 := [⟨nd.op, nd.pl, grownS ks⟩]) (g := gc) (fun _ => rfl) rfl rfl rfl rfl (roomOk_of (by omega) ?_) fun g75 => ?_
          · have := congrArg List.length hRj
            simp at this ⊢
            omega
          simp -implicitDefEqProofs only [go_sem, ↓reduceIte, Nat.reduceEqDiff, Nat.reduceLT, Nat.reduceLeDiff, Nat.reduceAdd, Nat.reduceMul, Nat.reduceSub, Nat.reduceBEq, Int.reduceToNat, Int.reduceLT, Int.reduceLE, Int.reduceEq, Int.reduceNe, Int.reduceBEq, Int.reduceBNe, Int.reduceAdd, Int.reduceSub, Int.natCast_nonneg, Bool.false_eq_true, Bool.true_eq_false, eq_self]
          refine hK12 _ ?_
          refine AW.region (by kernel_rfl) ?_
          simp -implicitDefEqProofs only [go_sem, ↓reduceIte, Nat.reduceEqDiff, Nat.reduceLT, Nat.reduceLeDiff, Nat.reduceAdd, Nat.reduceMul, Nat.reduceSub, Nat.reduceBEq, Int.reduceToNat, Int.reduceLT, Int.reduceLE, Int.reduceEq, Int.reduceNe, Int.reduceBEq, Int.reduceBNe, Int.reduceAdd, Int.reduceSub, Int.natCast_nonneg, Bool.false_eq_true, Bool.true_eq_false, eq_self]
          refine hL9 _ ⟨hj1, (g75, out2 ++ [⟨nd.op, nd.pl, grownS ks⟩]), ?_, Weak.st (by simp -implicitDefEqProofs only [go_sem, ↓reduceIte, Nat.reduceEqDiff, Nat.reduceLT, Nat.reduceLeDiff, Nat.reduceAdd, Nat.reduceMul, Nat.reduceSub, Nat.reduceBEq, Int.reduceToNat, Int.reduceLT, Int.reduceLE, Int.reduceEq, Int.reduceNe, Int.reduceBEq, Int.reduceBNe, Int.reduceAdd, Int.reduceSub, Int.natCast_nonneg, Bool.false_eq_true, Bool.true_eq_false, eq_self]; exact congrArg _ (w64 (by omega) (by omega))) (by simp -implicitDefEqProofs only [go_sem, ↓reduceIte, Nat.reduceEqDiff, Nat.reduceLT, Nat.reduceLeDiff, Nat.reduceAdd, Nat.reduceMul, Nat.reduceSub, Nat.reduceBEq, Int.reduceToNat, Int.reduceLT, Int.reduceLE, Int.reduceEq, Int.reduceNe, Int.reduceBEq, Int.reduceBNe, Int.reduceAdd, Int.reduceSub, Int.natCast_nonneg, Bool.false_eq_true, Bool.true_eq_false, eq_self])⟩
          have hRj : out2 = out ++ (q.v.row.take j).map (Nd.shift out.length) := hRj
          rw [List.take_succ_eq_append_getElem hj1, List.map_append, ← List.append_assoc, ← hRj, hnd, hks]
          rfl
      · -- false
        refine AW.exit ?_
        simp -implicitDefEqProofs only [go_sem, ↓reduceIte, Nat.reduceEqDiff, Nat.reduceLT, Nat.reduceLeDiff, Nat.reduceAdd, Nat.reduceMul, Nat.reduceSub, Nat.reduceBEq, Int.reduceToNat, Int.reduceLT, Int.reduceLE, Int.reduceEq, Int.reduceNe, Int.reduceBEq, Int.reduceBNe, Int.reduceAdd, Int.reduceSub, Int.natCast_nonneg, Bool.false_eq_true, Bool.true_eq_false, eq_self]
        refine hK8 _ ?_
        have hj1 : j = q.v.row.length := by simp at h11; omega
        have hout : out2 = out ++ q.v.row.map (Nd.shift out.length) := by
          have : out2 = out ++ (q.v.row.take j).map (Nd.shift out.length) := hRj
          rw [this, hj1, List.take_length]
        have hol2 : out2.length = out.length + q.v.row.length := by rw [hout]; simp
        refine AW.region (by kernel_rfl) ?_
        simp -implicitDefEqProofs only [go_sem, ↓reduceIte, Nat.reduceEqDiff, Nat.reduceLT, Nat.reduceLeDiff, Nat.reduceAdd, Nat.reduceMul, Nat.reduceSub, Nat.reduceBEq, Int.reduceToNat, Int.reduceLT, Int.reduceLE, Int.reduceEq, Int.reduceNe, Int.reduceBEq, Int.reduceBNe, Int.reduceAdd, Int.reduceSub, Int.natCast_nonneg, Bool.false_eq_true, Bool.true_eq_false, eq_self]
        intro g80
        refine app_grown (f := V.int .i64) (l := kids) (l2 := [((out.length + q.v.row.length : Nat) : Int) - 1]) (g := gb) (fun _ => rfl) rfl (by rw [w64 (by omega) (by omega), hol2]; rfl) rfl rfl (roomOk_of (by omega) (by simp; omega)) fun g81 => ?_
        simp -implicitDefEqProofs only [go_sem, ↓reduceIte, Nat.reduceEqDiff, Nat.reduceLT, Nat.reduceLeDiff, Nat.reduceAdd, Nat.reduceMul, Nat.reduceSub, Nat.reduceBEq, Int.reduceToNat, Int.reduceLT, Int.reduceLE, Int.reduceEq, Int.reduceNe, Int.reduceBEq, Int.reduceBNe, Int.reduceAdd, Int.reduceSub, Int.natCast_nonneg, Bool.false_eq_true, Bool.true_eq_false, eq_self]
        refine hK7 _ ?_
        refine AW.region (by kernel_rfl) ?_
        simp -implicitDefEqProofs only [go_sem, ↓reduceIte, Nat.reduceEqDiff, Nat.reduceLT, Nat.reduceLeDiff, Nat.reduceAdd, Nat.reduceMul, Nat.reduceSub, Nat.reduceBEq, Int.reduceToNat, Int.reduceLT, Int.reduceLE, Int.reduceEq, Int.reduceNe, Int.reduceBEq, Int.reduceBNe, Int.reduceAdd, Int.reduceSub, Int.natCast_nonneg, Bool.false_eq_true, Bool.true_eq_false, eq_self]
        refine hL4 _ ⟨hk1, ((gc, out2), (g81, kids ++ [((out.length + q.v.row.length : Nat) : Int) - 1])), ⟨?_, ?_⟩, Weak.st (by simp -implicitDefEqProofs only [go_sem, ↓reduceIte, Nat.reduceEqDiff, Nat.reduceLT, Nat.reduceLeDiff, Nat.reduceAdd, Nat.reduceMul, Nat.reduceSub, Nat.reduceBEq, Int.reduceToNat, Int.reduceLT, Int.reduceLE, Int.reduceEq, Int.reduceNe, Int.reduceBEq, Int.reduceBNe, Int.reduceAdd, Int.reduceSub, Int.natCast_nonneg, Bool.false_eq_true, Bool.true_eq_false, eq_self]; exact congrArg _ (w64 (by omega) (by omega))) (by simp -implicitDefEqProofs only [go_sem, ↓reduceIte, Nat.reduceEqDiff, Nat.reduceLT, Nat.reduceLeDiff, Nat.reduceAdd, Nat.reduceMul, Nat.reduceSub, Nat.reduceBEq, Int.reduceToNat, Int.reduceLT, Int.reduceLE, Int.reduceEq, Int.reduceNe, Int.reduceBEq, Int.reduceBNe, Int.reduceAdd, Int.reduceSub, Int.natCast_nonneg, Bool.false_eq_true, Bool.true_eq_false, eq_self])⟩
        · rw [← hR1, hol2, hout, List.append_assoc]
        · rw [← hR2, hol2, List.append_assoc]
          rfl
    · -- false
      refine AW.exit ?_
      simp -implicitDefEqProofs only [go_sem, ↓reduceIte, Nat.reduceEqDiff, Nat.reduceLT, Nat.reduceLeDiff, Nat.reduceAdd, Nat.reduceMul, Nat.reduceSub, Nat.reduceBEq, Int.reduceToNat, Int.reduceLT, Int.reduceLE, Int.reduceEq, Int.reduceNe, Int.reduceBEq, Int.reduceBNe, Int.reduceAdd, Int.reduceSub, Int.natCast_nonneg, Bool.false_eq_true, Bool.true_eq_false, eq_self]
      refine hK3 _ ?_
      have hk1 : k = p.ks.l.length := by simp at h6; omega
      have hout : out = T.rows (p.ks.l.map Pt.v) 0 := by rw [← hR1, hk1]; simp [T.rows]
      have hkids : kids = T.rowKids (p.ks.l.map Pt.v) 0 := by rw [← hR2, hk1]; simp [T.rowKids]
      refine AW.weak (Weak.stF (fun o => o == 81) (l := [(1, .ptr 1 g1 0), (3, grown 75 ga 3 out), (4, encSl .new 1 (V.int .i64) (grownS kids))])
        (m := [(1, .cells .new g1 0 [.int .u8 p.op, .int .i64 p.pl, encSl .any 3 (encPt .any) p.ks]), (75, grownO ga (encNd .new) out)]) ?_ ?_) ?_
      · simp -implicitDefEqProofs only [go_sem, ↓reduceIte, Nat.reduceEqDiff, Nat.reduceLT, Nat.reduceLeDiff, Nat.reduceAdd, Nat.reduceMul, Nat.reduceSub, Nat.reduceBEq, Int.reduceToNat, Int.reduceLT, Int.reduceLE, Int.reduceEq, Int.reduceNe, Int.reduceBEq, Int.reduceBNe, Int.reduceAdd, Int.reduceSub, Int.natCast_nonneg, Bool.false_eq_true, Bool.true_eq_false, eq_self]
        exact ⟨Fz.same _, Fz.same _, Fz.grown rfl rfl (fun _ => rfl)⟩
      · simp only [allFzO_cons, allFzO_nil, and_true]
        exact ⟨FzO.same rfl, FzO.same rfl⟩
      refine AW.seq_k fun K hK => AW.region (by kernel_rfl) ?_
      simp -implicitDefEqProofs only [go_sem, ↓reduceIte, Nat.reduceEqDiff, Nat.reduceLT, Nat.reduceLeDiff, Nat.reduceAdd, Nat.reduceMul, Nat.reduceSub, Nat.reduceBEq, Int.reduceToNat, Int.reduceLT, Int.reduceLE, Int.reduceEq, Int.reduceNe, Int.reduceBEq, Int.reduceBNe, Int.reduceAdd, Int.reduceSub, Int.natCast_nonneg, Bool.false_eq_true, Bool.true_eq_false, eq_self]
      intro g89
      refine app_grown2 (f := encNd .new) (l := out) (l2 := [⟨p.op, p.pl, grownS kids⟩]) (o := 75) (g := ga) (fun _ => rfl) rfl rfl rfl rfl (roomOk_of (by omega) ?_) fun o2 g2 ho2 => ?_
      · have h1 := congrArg List.length hrow
        rw [List.length_append, ← hout] at h1
        simp at h1 ⊢
        omega
      simp -implicitDefEqProofs only [go_sem, ↓reduceIte, Nat.reduceEqDiff, Nat.reduceLT, Nat.reduceLeDiff, Nat.reduceAdd, Nat.reduceMul, Nat.reduceSub, Nat.reduceBEq, Int.reduceToNat, Int.reduceLT, Int.reduceLE, Int.reduceEq, Int.reduceNe, Int.reduceBEq, Int.reduceBNe, Int.reduceAdd, Int.reduceSub, Int.natCast_nonneg, Bool.false_eq_true, Bool.true_eq_false, eq_self]
      refine hK _ ?_
      clear hK K
      refine AW.weak (Weak.stF (fun o => o == o2) (l := [(2, encSl .new 3 (encNd .new) (grownS (out ++ [⟨p.op, p.pl, grownS kids⟩])))]) (m := []) ?_ trivial) ?_
      · simp -implicitDefEqProofs only [go_sem, ↓reduceIte, Nat.reduceEqDiff, Nat.reduceLT, Nat.reduceLeDiff, Nat.reduceAdd, Nat.reduceMul, Nat.reduceSub, Nat.reduceBEq, Int.reduceToNat, Int.reduceLT, Int.reduceLE, Int.reduceEq, Int.reduceNe, Int.reduceBEq, Int.reduceBNe, Int.reduceAdd, Int.reduceSub, Int.natCast_nonneg, Bool.false_eq_true, Bool.true_eq_false, eq_self]
        exact Fz.grown (by simp) (by simp -implicitDefEqProofs only [go_sem, ↓reduceIte, Nat.reduceEqDiff, Nat.reduceLT, Nat.reduceLeDiff, Nat.reduceAdd, Nat.reduceMul, Nat.reduceSub, Nat.reduceBEq, Int.reduceToNat, Int.reduceLT, Int.reduceLE, Int.reduceEq, Int.reduceNe, Int.reduceBEq, Int.reduceBNe, Int.reduceAdd, Int.reduceSub, Int.natCast_nonneg, Bool.false_eq_true, Bool.true_eq_false, eq_self]) (fun _ => rfl)
      refine AW.ret ?_
      simp -implicitDefEqProofs only [go_sem, ↓reduceIte, Nat.reduceEqDiff, Nat.reduceLT, Nat.reduceLeDiff, Nat.reduceAdd, Nat.reduceMul, Nat.reduceSub, Nat.reduceBEq, Int.reduceToNat, Int.reduceLT, Int.reduceLE, Int.reduceEq, Int.reduceNe, Int.reduceBEq, Int.reduceBNe, Int.reduceAdd, Int.reduceSub, Int.natCast_nonneg, Bool.false_eq_true, Bool.true_eq_false, eq_self]
      refine endK_some ?_
      rw [hrow, ← hout, ← hkids]
end Go.Hs
end

section
namespace Go.Hs
open Go.Proofs
set_option maxRecDepth 10000
theorem few_lens {l : List Nd} (h : fewP l = true) : l.length ≤ 60 ∧ ∀ n ∈ l, n.kids.l.length ≤ 20 := by
  simp [fewP] at h
  exact h
theorem ready_eq {l : List Nd} {t : T} (h : RowIs l t) : t.ready 0 = readyP l := by
  rw [h.ready]
  split
  · rcases h with ⟨rfl, _⟩ | ⟨hg, _⟩
    · rfl
    · exact absurd ‹t.op = 0› (T.good_op hg)
  · rfl
theorem rightP_v {l m : List Nd} (h : m.map Nd.v = l.map Nd.v) : rightP m = rightP l := by
  rw [Bool.eq_iff_iff, rightP_iff, rightP_iff, h]
  have : m = [] ↔ l = [] := by
    have := congrArg List.length h
    simp only [List.length_map] at this
    rw [← List.length_eq_zero_iff, ← List.length_eq_zero_iff, this]
  rw [this]
theorem sz_le {l : List Nd} {t : T} (h : RowIs l t) : t.sz ≤ l.length + 1 := by
  rcases h with ⟨rfl, _⟩ | ⟨hg, hv⟩
  · show T.zero.sz ≤ _
    have : T.zero.sz = 1 := rfl
    omega
  · have := (RowIs.len (.inr ⟨hg, hv⟩)).2 hg
    omega
theorem ready_right {l : List Nd} {x : Int} (h : (readyP l).contains x = true) : rightP l = true := by
  unfold readyP at h
  split at h
  · simp at h
  · rename_i h'
    simpa using fun e => h' (.inr e)
/-- Take's row, and its bounds. -/
theorem takeP_row {t b : List Nd} {leaf : Int} {T0 B0 : T} (hT : RowIs t T0) (hB : RowIs b B0) (h1 : t.length ≤ 60) (h2 : b.length ≤ 60) (hc : (readyP t).contains leaf = true) :
    RowIs (takeP t leaf b) (T0.tk leaf B0) ∧ TakeOk t leaf b t.length (t.length - 1) ∧ T0.good ∧ 0 ≤ leaf ∧ leaf < 1000 ∧ (T0.tk leaf B0).sz ≤ 122 := by
  have s1 := sz_le hT
  have s2 := sz_le hB
  have hm : leaf ∈ readyP t := by simpa using hc
  have hg : T0.good := by
    rcases hT with ⟨_, rfl⟩ | ⟨hg, _⟩
    · rw [show readyP [] = [] from rfl] at hm; cases hm
    · exact hg
  obtain ⟨h3, h4⟩ := take_law hT hB hm (by omega)
  have h5 := tk_sz T0 leaf B0 hg
  have hv : t.map Nd.v = T0.vrow 0 := by
    rcases hT with ⟨rfl, h⟩ | ⟨_, h⟩
    · exact absurd rfl (T.good_op hg)
    · exact h
  have hseg : Seg t 0 (T0.vrow 0) := by intro j x hj; rw [hv, Nat.zero_add, hj]
  rw [← ready_eq hT] at hm
  obtain ⟨q1, q2, _⟩ := ready_leaf T0 0 hg hseg leaf hm
  exact ⟨h3, h4, hg, by omega, by omega, by omega⟩
theorem RowIs.lens {l : List Nd} {t : T} (h : RowIs l t) (hs : t.sz ≤ 122) : l.length < 1000 ∧ ∀ n ∈ l, n.kids.l.length < 1000 :=
  ⟨by have := h.len.1; omega, fun n hn => by have := (h.kids n hn).1; omega⟩
theorem takeP_lens {t b : List Nd} {leaf : Int} (hf1 : fewP t = true) (hf2 : fewP b = true) : (takeP t leaf b).length < 1000 ∧ ∀ n ∈ takeP t leaf b, n.kids.l.length < 1000 := by
  obtain ⟨h1, h1k⟩ := few_lens hf1
  obtain ⟨h2, _⟩ := few_lens hf2
  by_cases hc : rightP b = true ∧ (readyP t).contains leaf = true
  · obtain ⟨T0, hT⟩ := RowIs.of_right (ready_right hc.2)
    obtain ⟨B0, hB⟩ := RowIs.of_right hc.1
    obtain ⟨q1, _, _, _, _, q2⟩ := takeP_row hT hB h1 h2 hc.2
    exact q1.lens q2
  · rw [takeP, if_neg hc]
    refine ⟨by rw [List.length_map]; omega, fun n hn => ?_⟩
    obtain ⟨m, hm, rfl⟩ := List.mem_map.1 hn
    have e : (Nd.copy m).kids.l = m.kids.l := congrArg (·.2.2) (Nd.copy_v m)
    rw [e]
    have := h1k m hm
    omega
theorem takeP_no {t b : List Nd} {leaf : Int} (h : ¬ (rightP b = true ∧ (readyP t).contains leaf = true)) : (takeP t leaf b).map Nd.v = t.map Nd.v := by
  rw [takeP, if_neg h, copy_v]
theorem old_nds (t : Sl Nd) : (encSl .old 3 (encNd .old) t).Old := Old.enc (fun n y hy => by
  simp only [encNd, V.cells, List.mem_cons, List.not_mem_nil, or_false] at hy
  rcases hy with rfl | rfl | rfl
  · exact .int _ _
  · exact .int _ _
  · exact Old.enc (fun x y hy => by simp only [V.cells, List.mem_singleton] at hy; subst hy; exact .int _ _) _) t
/- hopscotchlaw22.StepsTake -/
theorem stepsTake_spec (G : Nat → V) (hG : GOk G) (hGo : ∀ g, (G g).Old) (t b : Sl Nd) (leaf : Int) :
    Spec Try.prog G 3 [encTree .old .old t, .int .i64 leaf, encTree .old .old b] hNone (fun v _ => v = .bool true) := by
  refine Spec.of_code' 0 83 [.tmp 6] Try.func3 rfl rfl rfl rfl fun X => ?_
  refine AW.seq_k fun K hK => AW.region (by kernel_rfl) ?_
  simp -implicitDefEqProofs only [go_sem, ↓reduceIte, Nat.reduceEqDiff, Nat.reduceLT, Nat.reduceLeDiff, Nat.reduceAdd, Nat.reduceMul, Nat.reduceSub, Nat.reduceBEq, Int.reduceToNat, Int.reduceLT, Int.reduceLE, Int.reduceEq, Int.reduceNe, Int.reduceBEq, Int.reduceBNe, Int.reduceAdd, Int.reduceSub, Int.natCast_nonneg, Bool.false_eq_true, Bool.true_eq_false, eq_self]
  intro g3 g5
  refine hK _ ?_
  clear hK K
  refine AW.seqJ (fun (_ : Unit) => st [(1, .int .i64 leaf), (3, .ptr 3 g3 0), (5, .ptr 5 g5 0)] [(3, .cells .new g3 0 [encSl .old 3 (encNd .old) t]), (5, .cells .new g5 0 [encSl .old 3 (encNd .old) b])]) (fun _ => fewP t.l = true ∧ fewP b.l = true) (fun K1 hK1 => ?_) ?_
  · cases hf : fewP t.l with
    | false =>
      refine AW.seq_k fun K hK => AW.region (by kernel_rfl) ?_
      simp -implicitDefEqProofs only [go_sem, ↓reduceIte, Nat.reduceEqDiff, Nat.reduceLT, Nat.reduceLeDiff, Nat.reduceAdd, Nat.reduceMul, Nat.reduceSub, Nat.reduceBEq, Int.reduceToNat, Int.reduceLT, Int.reduceLE, Int.reduceEq, Int.reduceNe, Int.reduceBEq, Int.reduceBNe, Int.reduceAdd, Int.reduceSub, Int.natCast_nonneg, Bool.false_eq_true, Bool.true_eq_false, eq_self]
      refine CallA.pure hG (by kernel_rfl) ?_
      simp -implicitDefEqProofs only [go_sem, ↓reduceIte, Nat.reduceEqDiff, Nat.reduceLT, Nat.reduceLeDiff, Nat.reduceAdd, Nat.reduceMul, Nat.reduceSub, Nat.reduceBEq, Int.reduceToNat, Int.reduceLT, Int.reduceLE, Int.reduceEq, Int.reduceNe, Int.reduceBEq, Int.reduceBNe, Int.reduceAdd, Int.reduceSub, Int.natCast_nonneg, Bool.false_eq_true, Bool.true_eq_false, eq_self]
      refine (few_spec G hG _ _ t).mono ?_
      rintro _ _ rfl
      simp -implicitDefEqProofs only [go_sem, ↓reduceIte, Nat.reduceEqDiff, Nat.reduceLT, Nat.reduceLeDiff, Nat.reduceAdd, Nat.reduceMul, Nat.reduceSub, Nat.reduceBEq, Int.reduceToNat, Int.reduceLT, Int.reduceLE, Int.reduceEq, Int.reduceNe, Int.reduceBEq, Int.reduceBNe, Int.reduceAdd, Int.reduceSub, Int.natCast_nonneg, Bool.false_eq_true, Bool.true_eq_false, eq_self, hf]
      refine hK _ ?_
      clear hK K
      refine AW.condS (by simp -implicitDefEqProofs only [go_sem, ↓reduceIte, Nat.reduceEqDiff, Nat.reduceLT, Nat.reduceLeDiff, Nat.reduceAdd, Nat.reduceMul, Nat.reduceSub, Nat.reduceBEq, Int.reduceToNat, Int.reduceLT, Int.reduceLE, Int.reduceEq, Int.reduceNe, Int.reduceBEq, Int.reduceBNe, Int.reduceAdd, Int.reduceSub, Int.natCast_nonneg, Bool.false_eq_true, Bool.true_eq_false, eq_self]; rfl) (fun h2 => ?_) (fun h2 => ?_)
      · refine AW.seq_k fun K hK => AW.region (by kernel_rfl) ?_
        simp -implicitDefEqProofs only [go_sem, ↓reduceIte, Nat.reduceEqDiff, Nat.reduceLT, Nat.reduceLeDiff, Nat.reduceAdd, Nat.reduceMul, Nat.reduceSub, Nat.reduceBEq, Int.reduceToNat, Int.reduceLT, Int.reduceLE, Int.reduceEq, Int.reduceNe, Int.reduceBEq, Int.reduceBNe, Int.reduceAdd, Int.reduceSub, Int.natCast_nonneg, Bool.false_eq_true, Bool.true_eq_false, eq_self]
        refine CallA.pure hG (by kernel_rfl) ?_
        simp -implicitDefEqProofs only [go_sem, ↓reduceIte, Nat.reduceEqDiff, Nat.reduceLT, Nat.reduceLeDiff, Nat.reduceAdd, Nat.reduceMul, Nat.reduceSub, Nat.reduceBEq, Int.reduceToNat, Int.reduceLT, Int.reduceLE, Int.reduceEq, Int.reduceNe, Int.reduceBEq, Int.reduceBNe, Int.reduceAdd, Int.reduceSub, Int.natCast_nonneg, Bool.false_eq_true, Bool.true_eq_false, eq_self, List.map_nil]
        refine (works_spec G hG).mono ?_
        rintro _ _ rfl
        simp -implicitDefEqProofs only [go_sem, ↓reduceIte, Nat.reduceEqDiff, Nat.reduceLT, Nat.reduceLeDiff, Nat.reduceAdd, Nat.reduceMul, Nat.reduceSub, Nat.reduceBEq, Int.reduceToNat, Int.reduceLT, Int.reduceLE, Int.reduceEq, Int.reduceNe, Int.reduceBEq, Int.reduceBNe, Int.reduceAdd, Int.reduceSub, Int.natCast_nonneg, Bool.false_eq_true, Bool.true_eq_false, eq_self]
        refine hK _ ?_
        clear hK K
        refine AW.ret ?_
        simp -implicitDefEqProofs only [go_sem, ↓reduceIte, Nat.reduceEqDiff, Nat.reduceLT, Nat.reduceLeDiff, Nat.reduceAdd, Nat.reduceMul, Nat.reduceSub, Nat.reduceBEq, Int.reduceToNat, Int.reduceLT, Int.reduceLE, Int.reduceEq, Int.reduceNe, Int.reduceBEq, Int.reduceBNe, Int.reduceAdd, Int.reduceSub, Int.natCast_nonneg, Bool.false_eq_true, Bool.true_eq_false, eq_self]
        refine endK_some ?_
        rfl
      · simp at h2
    | true =>
      refine AW.seq_k fun K hK => AW.region (by kernel_rfl) ?_
      simp -implicitDefEqProofs only [go_sem, ↓reduceIte, Nat.reduceEqDiff, Nat.reduceLT, Nat.reduceLeDiff, Nat.reduceAdd, Nat.reduceMul, Nat.reduceSub, Nat.reduceBEq, Int.reduceToNat, Int.reduceLT, Int.reduceLE, Int.reduceEq, Int.reduceNe, Int.reduceBEq, Int.reduceBNe, Int.reduceAdd, Int.reduceSub, Int.natCast_nonneg, Bool.false_eq_true, Bool.true_eq_false, eq_self]
      refine CallA.pure hG (by kernel_rfl) ?_
      simp -implicitDefEqProofs only [go_sem, ↓reduceIte, Nat.reduceEqDiff, Nat.reduceLT, Nat.reduceLeDiff, Nat.reduceAdd, Nat.reduceMul, Nat.reduceSub, Nat.reduceBEq, Int.reduceToNat, Int.reduceLT, Int.reduceLE, Int.reduceEq, Int.reduceNe, Int.reduceBEq, Int.reduceBNe, Int.reduceAdd, Int.reduceSub, Int.natCast_nonneg, Bool.false_eq_true, Bool.true_eq_false, eq_self]
      refine (few_spec G hG _ _ t).mono ?_
      rintro _ _ rfl
      simp -implicitDefEqProofs only [go_sem, ↓reduceIte, Nat.reduceEqDiff, Nat.reduceLT, Nat.reduceLeDiff, Nat.reduceAdd, Nat.reduceMul, Nat.reduceSub, Nat.reduceBEq, Int.reduceToNat, Int.reduceLT, Int.reduceLE, Int.reduceEq, Int.reduceNe, Int.reduceBEq, Int.reduceBNe, Int.reduceAdd, Int.reduceSub, Int.natCast_nonneg, Bool.false_eq_true, Bool.true_eq_false, eq_self, hf]
      refine CallA.pure hG (by kernel_rfl) ?_
      simp -implicitDefEqProofs only [go_sem, ↓reduceIte, Nat.reduceEqDiff, Nat.reduceLT, Nat.reduceLeDiff, Nat.reduceAdd, Nat.reduceMul, Nat.reduceSub, Nat.reduceBEq, Int.reduceToNat, Int.reduceLT, Int.reduceLE, Int.reduceEq, Int.reduceNe, Int.reduceBEq, Int.reduceBNe, Int.reduceAdd, Int.reduceSub, Int.natCast_nonneg, Bool.false_eq_true, Bool.true_eq_false, eq_self]
      refine (few_spec G hG _ _ b).mono ?_
      rintro _ _ rfl
      simp -implicitDefEqProofs only [go_sem, ↓reduceIte, Nat.reduceEqDiff, Nat.reduceLT, Nat.reduceLeDiff, Nat.reduceAdd, Nat.reduceMul, Nat.reduceSub, Nat.reduceBEq, Int.reduceToNat, Int.reduceLT, Int.reduceLE, Int.reduceEq, Int.reduceNe, Int.reduceBEq, Int.reduceBNe, Int.reduceAdd, Int.reduceSub, Int.natCast_nonneg, Bool.false_eq_true, Bool.true_eq_false, eq_self]
      refine hK _ ?_
      clear hK K
      refine AW.condS (by simp -implicitDefEqProofs only [go_sem, ↓reduceIte, Nat.reduceEqDiff, Nat.reduceLT, Nat.reduceLeDiff, Nat.reduceAdd, Nat.reduceMul, Nat.reduceSub, Nat.reduceBEq, Int.reduceToNat, Int.reduceLT, Int.reduceLE, Int.reduceEq, Int.reduceNe, Int.reduceBEq, Int.reduceBNe, Int.reduceAdd, Int.reduceSub, Int.natCast_nonneg, Bool.false_eq_true, Bool.true_eq_false, eq_self]; rfl) (fun h2 => ?_) (fun h2 => ?_)
      · refine AW.seq_k fun K hK => AW.region (by kernel_rfl) ?_
        simp -implicitDefEqProofs only [go_sem, ↓reduceIte, Nat.reduceEqDiff, Nat.reduceLT, Nat.reduceLeDiff, Nat.reduceAdd, Nat.reduceMul, Nat.reduceSub, Nat.reduceBEq, Int.reduceToNat, Int.reduceLT, Int.reduceLE, Int.reduceEq, Int.reduceNe, Int.reduceBEq, Int.reduceBNe, Int.reduceAdd, Int.reduceSub, Int.natCast_nonneg, Bool.false_eq_true, Bool.true_eq_false, eq_self]
        refine CallA.pure hG (by kernel_rfl) ?_
        simp -implicitDefEqProofs only [go_sem, ↓reduceIte, Nat.reduceEqDiff, Nat.reduceLT, Nat.reduceLeDiff, Nat.reduceAdd, Nat.reduceMul, Nat.reduceSub, Nat.reduceBEq, Int.reduceToNat, Int.reduceLT, Int.reduceLE, Int.reduceEq, Int.reduceNe, Int.reduceBEq, Int.reduceBNe, Int.reduceAdd, Int.reduceSub, Int.natCast_nonneg, Bool.false_eq_true, Bool.true_eq_false, eq_self, List.map_nil]
        refine (works_spec G hG).mono ?_
        rintro _ _ rfl
        simp -implicitDefEqProofs only [go_sem, ↓reduceIte, Nat.reduceEqDiff, Nat.reduceLT, Nat.reduceLeDiff, Nat.reduceAdd, Nat.reduceMul, Nat.reduceSub, Nat.reduceBEq, Int.reduceToNat, Int.reduceLT, Int.reduceLE, Int.reduceEq, Int.reduceNe, Int.reduceBEq, Int.reduceBNe, Int.reduceAdd, Int.reduceSub, Int.natCast_nonneg, Bool.false_eq_true, Bool.true_eq_false, eq_self]
        refine hK _ ?_
        clear hK K
        refine AW.ret ?_
        simp -implicitDefEqProofs only [go_sem, ↓reduceIte, Nat.reduceEqDiff, Nat.reduceLT, Nat.reduceLeDiff, Nat.reduceAdd, Nat.reduceMul, Nat.reduceSub, Nat.reduceBEq, Int.reduceToNat, Int.reduceLT, Int.reduceLE, Int.reduceEq, Int.reduceNe, Int.reduceBEq, Int.reduceBNe, Int.reduceAdd, Int.reduceSub, Int.natCast_nonneg, Bool.false_eq_true, Bool.true_eq_false, eq_self]
        refine endK_some ?_
        rfl
      · refine AW.skip ?_
        simp -implicitDefEqProofs only [go_sem, ↓reduceIte, Nat.reduceEqDiff, Nat.reduceLT, Nat.reduceLeDiff, Nat.reduceAdd, Nat.reduceMul, Nat.reduceSub, Nat.reduceBEq, Int.reduceToNat, Int.reduceLT, Int.reduceLE, Int.reduceEq, Int.reduceNe, Int.reduceBEq, Int.reduceBNe, Int.reduceAdd, Int.reduceSub, Int.natCast_nonneg, Bool.false_eq_true, Bool.true_eq_false, eq_self]
        exact hK1 _ () ⟨hf, by simpa using h2⟩ (Weak.st (by simp -implicitDefEqProofs only [go_sem, ↓reduceIte, Nat.reduceEqDiff, Nat.reduceLT, Nat.reduceLeDiff, Nat.reduceAdd, Nat.reduceMul, Nat.reduceSub, Nat.reduceBEq, Int.reduceToNat, Int.reduceLT, Int.reduceLE, Int.reduceEq, Int.reduceNe, Int.reduceBEq, Int.reduceBNe, Int.reduceAdd, Int.reduceSub, Int.natCast_nonneg, Bool.false_eq_true, Bool.true_eq_false, eq_self]) (by simp -implicitDefEqProofs only [go_sem, ↓reduceIte, Nat.reduceEqDiff, Nat.reduceLT, Nat.reduceLeDiff, Nat.reduceAdd, Nat.reduceMul, Nat.reduceSub, Nat.reduceBEq, Int.reduceToNat, Int.reduceLT, Int.reduceLE, Int.reduceEq, Int.reduceNe, Int.reduceBEq, Int.reduceBNe, Int.reduceAdd, Int.reduceSub, Int.natCast_nonneg, Bool.false_eq_true, Bool.true_eq_false, eq_self]))
  · rintro _ ⟨hf1, hf2⟩
    obtain ⟨htl, htk⟩ := few_lens hf1
    obtain ⟨hbl, hbk⟩ := few_lens hf2
    refine AW.seq_k fun K hK => AW.region (by kernel_rfl) ?_
    simp -implicitDefEqProofs only [go_sem, ↓reduceIte, Nat.reduceEqDiff, Nat.reduceLT, Nat.reduceLeDiff, Nat.reduceAdd, Nat.reduceMul, Nat.reduceSub, Nat.reduceBEq, Int.reduceToNat, Int.reduceLT, Int.reduceLE, Int.reduceEq, Int.reduceNe, Int.reduceBEq, Int.reduceBNe, Int.reduceAdd, Int.reduceSub, Int.natCast_nonneg, Bool.false_eq_true, Bool.true_eq_false, eq_self]
    refine CallA.pure hG (by kernel_rfl) ?_
    simp -implicitDefEqProofs only [go_sem, ↓reduceIte, Nat.reduceEqDiff, Nat.reduceLT, Nat.reduceLeDiff, Nat.reduceAdd, Nat.reduceMul, Nat.reduceSub, Nat.reduceBEq, Int.reduceToNat, Int.reduceLT, Int.reduceLE, Int.reduceEq, Int.reduceNe, Int.reduceBEq, Int.reduceBNe, Int.reduceAdd, Int.reduceSub, Int.natCast_nonneg, Bool.false_eq_true, Bool.true_eq_false, eq_self]
    refine (row_spec G hG _ _ t (by omega) (fun n hn => by have := htk n hn; omega)).mono ?_
    rintro _ _ ⟨r, rfl, hr⟩
    simp -implicitDefEqProofs only [go_sem, ↓reduceIte, Nat.reduceEqDiff, Nat.reduceLT, Nat.reduceLeDiff, Nat.reduceAdd, Nat.reduceMul, Nat.reduceSub, Nat.reduceBEq, Int.reduceToNat, Int.reduceLT, Int.reduceLE, Int.reduceEq, Int.reduceNe, Int.reduceBEq, Int.reduceBNe, Int.reduceAdd, Int.reduceSub, Int.natCast_nonneg, Bool.false_eq_true, Bool.true_eq_false, eq_self]
    refine hK _ ?_
    clear hK K
    have hrl : r.l.length = t.l.length := by have := congrArg List.length hr; simpa using this
    have hrk : ∀ n ∈ r.l, n.kids.l.length ≤ 20 := by
      intro n hn
      have : n.v ∈ t.l.map Nd.v := hr ▸ List.mem_map_of_mem hn
      obtain ⟨m, hm, he⟩ := List.mem_map.1 this
      have := htk m hm
      have e : m.kids.l = n.kids.l := congrArg (·.2.2) he
      rw [← e]; exact this
    refine AW.seq_k fun K hK => AW.region (by kernel_rfl) ?_
    simp -implicitDefEqProofs only [go_sem, ↓reduceIte, Nat.reduceEqDiff, Nat.reduceLT, Nat.reduceLeDiff, Nat.reduceAdd, Nat.reduceMul, Nat.reduceSub, Nat.reduceBEq, Int.reduceToNat, Int.reduceLT, Int.reduceLE, Int.reduceEq, Int.reduceNe, Int.reduceBEq, Int.reduceBNe, Int.reduceAdd, Int.reduceSub, Int.natCast_nonneg, Bool.false_eq_true, Bool.true_eq_false, eq_self]
    refine CallA.pure hG (by kernel_rfl) ?_
    simp -implicitDefEqProofs only [go_sem, ↓reduceIte, Nat.reduceEqDiff, Nat.reduceLT, Nat.reduceLeDiff, Nat.reduceAdd, Nat.reduceMul, Nat.reduceSub, Nat.reduceBEq, Int.reduceToNat, Int.reduceLT, Int.reduceLE, Int.reduceEq, Int.reduceNe, Int.reduceBEq, Int.reduceBNe, Int.reduceAdd, Int.reduceSub, Int.natCast_nonneg, Bool.false_eq_true, Bool.true_eq_false, eq_self]
    refine (rOf_spec G hG _ _ r (by omega) (fun n hn => by have := hrk n hn; omega)).mono ?_
    rintro _ _ rfl
    simp -implicitDefEqProofs only [go_sem, ↓reduceIte, Nat.reduceEqDiff, Nat.reduceLT, Nat.reduceLeDiff, Nat.reduceAdd, Nat.reduceMul, Nat.reduceSub, Nat.reduceBEq, Int.reduceToNat, Int.reduceLT, Int.reduceLE, Int.reduceEq, Int.reduceNe, Int.reduceBEq, Int.reduceBNe, Int.reduceAdd, Int.reduceSub, Int.natCast_nonneg, Bool.false_eq_true, Bool.true_eq_false, eq_self]
    intro g8
    refine hK _ ?_
    clear hK K
    refine AW.seq_k fun K hK => AW.region (by kernel_rfl) ?_
    simp -implicitDefEqProofs only [go_sem, ↓reduceIte, Nat.reduceEqDiff, Nat.reduceLT, Nat.reduceLeDiff, Nat.reduceAdd, Nat.reduceMul, Nat.reduceSub, Nat.reduceBEq, Int.reduceToNat, Int.reduceLT, Int.reduceLE, Int.reduceEq, Int.reduceNe, Int.reduceBEq, Int.reduceBNe, Int.reduceAdd, Int.reduceSub, Int.natCast_nonneg, Bool.false_eq_true, Bool.true_eq_false, eq_self]
    refine CallA.pure hG (by kernel_rfl) ?_
    simp -implicitDefEqProofs only [go_sem, ↓reduceIte, Nat.reduceEqDiff, Nat.reduceLT, Nat.reduceLeDiff, Nat.reduceAdd, Nat.reduceMul, Nat.reduceSub, Nat.reduceBEq, Int.reduceToNat, Int.reduceLT, Int.reduceLE, Int.reduceEq, Int.reduceNe, Int.reduceBEq, Int.reduceBNe, Int.reduceAdd, Int.reduceSub, Int.natCast_nonneg, Bool.false_eq_true, Bool.true_eq_false, eq_self]
    refine (row_spec G hG _ _ b (by omega) (fun n hn => by have := hbk n hn; omega)).mono ?_
    rintro _ _ ⟨s, rfl, hs⟩
    simp -implicitDefEqProofs only [go_sem, ↓reduceIte, Nat.reduceEqDiff, Nat.reduceLT, Nat.reduceLeDiff, Nat.reduceAdd, Nat.reduceMul, Nat.reduceSub, Nat.reduceBEq, Int.reduceToNat, Int.reduceLT, Int.reduceLE, Int.reduceEq, Int.reduceNe, Int.reduceBEq, Int.reduceBNe, Int.reduceAdd, Int.reduceSub, Int.natCast_nonneg, Bool.false_eq_true, Bool.true_eq_false, eq_self]
    have hsl : s.l.length = b.l.length := by have := congrArg List.length hs; simpa using this
    have hsk : ∀ n ∈ s.l, n.kids.l.length ≤ 20 := by
      intro n hn
      have : n.v ∈ b.l.map Nd.v := hs ▸ List.mem_map_of_mem hn
      obtain ⟨m, hm, he⟩ := List.mem_map.1 this
      have := hbk m hm
      have e : m.kids.l = n.kids.l := congrArg (·.2.2) he
      rw [← e]; exact this
    refine CallA.pure hG (by kernel_rfl) ?_
    simp -implicitDefEqProofs only [go_sem, ↓reduceIte, Nat.reduceEqDiff, Nat.reduceLT, Nat.reduceLeDiff, Nat.reduceAdd, Nat.reduceMul, Nat.reduceSub, Nat.reduceBEq, Int.reduceToNat, Int.reduceLT, Int.reduceLE, Int.reduceEq, Int.reduceNe, Int.reduceBEq, Int.reduceBNe, Int.reduceAdd, Int.reduceSub, Int.natCast_nonneg, Bool.false_eq_true, Bool.true_eq_false, eq_self]
    refine (rOf_spec G hG _ _ s (by omega) (fun n hn => by have := hsk n hn; omega)).mono ?_
    rintro _ _ rfl
    simp -implicitDefEqProofs only [go_sem, ↓reduceIte, Nat.reduceEqDiff, Nat.reduceLT, Nat.reduceLeDiff, Nat.reduceAdd, Nat.reduceMul, Nat.reduceSub, Nat.reduceBEq, Int.reduceToNat, Int.reduceLT, Int.reduceLE, Int.reduceEq, Int.reduceNe, Int.reduceBEq, Int.reduceBNe, Int.reduceAdd, Int.reduceSub, Int.natCast_nonneg, Bool.false_eq_true, Bool.true_eq_false, eq_self]
    intro g10
    refine hK _ ?_
    clear hK K
    refine AW.seq_k fun K hK => AW.region (by kernel_rfl) ?_
    simp -implicitDefEqProofs only [go_sem, ↓reduceIte, Nat.reduceEqDiff, Nat.reduceLT, Nat.reduceLeDiff, Nat.reduceAdd, Nat.reduceMul, Nat.reduceSub, Nat.reduceBEq, Int.reduceToNat, Int.reduceLT, Int.reduceLE, Int.reduceEq, Int.reduceNe, Int.reduceBEq, Int.reduceBNe, Int.reduceAdd, Int.reduceSub, Int.natCast_nonneg, Bool.false_eq_true, Bool.true_eq_false, eq_self]
    refine hK _ ?_
    clear hK K
    refine AW.seqJ (fun (u : Sl Nd) => st [(1, .int .i64 leaf), (3, .ptr 3 g3 0), (5, .ptr 5 g5 0), (7, encSl .new 3 (encNd .new) r), (12, encSl .new 3 (encNd .new) u)] [(3, .cells .new g3 0 [encSl .old 3 (encNd .old) t]), (5, .cells .new g5 0 [encSl .old 3 (encNd .old) b])]) (fun u => u.l.map Nd.v = (takeP t.l leaf b.l).map Nd.v ∧ u.l.length < 1000 ∧ ∀ n ∈ u.l, n.kids.l.length < 1000) (fun K3 hK3 => ?_) ?_
    · have hrr : rightP r.l = rightP t.l := rightP_v hr
      have hss : rightP s.l = rightP b.l := rightP_v hs
      have hlr : r.l.length < 1000 ∧ ∀ n ∈ r.l, n.kids.l.length < 1000 := ⟨by omega, fun n hn => by have := hrk n hn; omega⟩
      have stay : ¬ (rightP b.l = true ∧ (readyP t.l).contains leaf = true) → r.l.map Nd.v = (takeP t.l leaf b.l).map Nd.v := fun h => hr.trans (takeP_no h).symm
      cases hrt : rightP t.l with
      | false =>
        refine AW.seq_k fun K hK => AW.region (by kernel_rfl) ?_
        simp -implicitDefEqProofs only [go_sem, ↓reduceIte, Nat.reduceEqDiff, Nat.reduceLT, Nat.reduceLeDiff, Nat.reduceAdd, Nat.reduceMul, Nat.reduceSub, Nat.reduceBEq, Int.reduceToNat, Int.reduceLT, Int.reduceLE, Int.reduceEq, Int.reduceNe, Int.reduceBEq, Int.reduceBNe, Int.reduceAdd, Int.reduceSub, Int.natCast_nonneg, Bool.false_eq_true, Bool.true_eq_false, eq_self, ofP_right, hrr, hrt]
        refine hK _ ?_
        clear hK K
        refine AW.condS (by simp -implicitDefEqProofs only [go_sem, ↓reduceIte, Nat.reduceEqDiff, Nat.reduceLT, Nat.reduceLeDiff, Nat.reduceAdd, Nat.reduceMul, Nat.reduceSub, Nat.reduceBEq, Int.reduceToNat, Int.reduceLT, Int.reduceLE, Int.reduceEq, Int.reduceNe, Int.reduceBEq, Int.reduceBNe, Int.reduceAdd, Int.reduceSub, Int.natCast_nonneg, Bool.false_eq_true, Bool.true_eq_false, eq_self]; rfl) (fun h1 => ?_) (fun h1 => ?_)
        · simp at h1
        · refine AW.skip ?_
          simp -implicitDefEqProofs only [go_sem, ↓reduceIte, Nat.reduceEqDiff, Nat.reduceLT, Nat.reduceLeDiff, Nat.reduceAdd, Nat.reduceMul, Nat.reduceSub, Nat.reduceBEq, Int.reduceToNat, Int.reduceLT, Int.reduceLE, Int.reduceEq, Int.reduceNe, Int.reduceBEq, Int.reduceBNe, Int.reduceAdd, Int.reduceSub, Int.natCast_nonneg, Bool.false_eq_true, Bool.true_eq_false, eq_self]
          refine hK3 _ r ⟨stay fun h => ?_, hlr⟩ (Weak.st (by simp -implicitDefEqProofs only [go_sem, ↓reduceIte, Nat.reduceEqDiff, Nat.reduceLT, Nat.reduceLeDiff, Nat.reduceAdd, Nat.reduceMul, Nat.reduceSub, Nat.reduceBEq, Int.reduceToNat, Int.reduceLT, Int.reduceLE, Int.reduceEq, Int.reduceNe, Int.reduceBEq, Int.reduceBNe, Int.reduceAdd, Int.reduceSub, Int.natCast_nonneg, Bool.false_eq_true, Bool.true_eq_false, eq_self]) (by simp -implicitDefEqProofs only [go_sem, ↓reduceIte, Nat.reduceEqDiff, Nat.reduceLT, Nat.reduceLeDiff, Nat.reduceAdd, Nat.reduceMul, Nat.reduceSub, Nat.reduceBEq, Int.reduceToNat, Int.reduceLT, Int.reduceLE, Int.reduceEq, Int.reduceNe, Int.reduceBEq, Int.reduceBNe, Int.reduceAdd, Int.reduceSub, Int.natCast_nonneg, Bool.false_eq_true, Bool.true_eq_false, eq_self]))
          have := ready_right h.2
          rw [hrt] at this
          cases this
      | true =>
        cases hrb : rightP b.l with
        | false =>
          refine AW.seq_k fun K hK => AW.region (by kernel_rfl) ?_
          simp -implicitDefEqProofs only [go_sem, ↓reduceIte, Nat.reduceEqDiff, Nat.reduceLT, Nat.reduceLeDiff, Nat.reduceAdd, Nat.reduceMul, Nat.reduceSub, Nat.reduceBEq, Int.reduceToNat, Int.reduceLT, Int.reduceLE, Int.reduceEq, Int.reduceNe, Int.reduceBEq, Int.reduceBNe, Int.reduceAdd, Int.reduceSub, Int.natCast_nonneg, Bool.false_eq_true, Bool.true_eq_false, eq_self, ofP_right, hrr, hrt, hss, hrb]
          refine hK _ ?_
          clear hK K
          refine AW.condS (by simp -implicitDefEqProofs only [go_sem, ↓reduceIte, Nat.reduceEqDiff, Nat.reduceLT, Nat.reduceLeDiff, Nat.reduceAdd, Nat.reduceMul, Nat.reduceSub, Nat.reduceBEq, Int.reduceToNat, Int.reduceLT, Int.reduceLE, Int.reduceEq, Int.reduceNe, Int.reduceBEq, Int.reduceBNe, Int.reduceAdd, Int.reduceSub, Int.natCast_nonneg, Bool.false_eq_true, Bool.true_eq_false, eq_self]; rfl) (fun h1 => ?_) (fun h1 => ?_)
          · simp at h1
          · refine AW.skip ?_
            simp -implicitDefEqProofs only [go_sem, ↓reduceIte, Nat.reduceEqDiff, Nat.reduceLT, Nat.reduceLeDiff, Nat.reduceAdd, Nat.reduceMul, Nat.reduceSub, Nat.reduceBEq, Int.reduceToNat, Int.reduceLT, Int.reduceLE, Int.reduceEq, Int.reduceNe, Int.reduceBEq, Int.reduceBNe, Int.reduceAdd, Int.reduceSub, Int.natCast_nonneg, Bool.false_eq_true, Bool.true_eq_false, eq_self]
            exact hK3 _ r ⟨stay (by simp [hrb]), hlr⟩ (Weak.st (by simp -implicitDefEqProofs only [go_sem, ↓reduceIte, Nat.reduceEqDiff, Nat.reduceLT, Nat.reduceLeDiff, Nat.reduceAdd, Nat.reduceMul, Nat.reduceSub, Nat.reduceBEq, Int.reduceToNat, Int.reduceLT, Int.reduceLE, Int.reduceEq, Int.reduceNe, Int.reduceBEq, Int.reduceBNe, Int.reduceAdd, Int.reduceSub, Int.natCast_nonneg, Bool.false_eq_true, Bool.true_eq_false, eq_self]) (by simp -implicitDefEqProofs only [go_sem, ↓reduceIte, Nat.reduceEqDiff, Nat.reduceLT, Nat.reduceLeDiff, Nat.reduceAdd, Nat.reduceMul, Nat.reduceSub, Nat.reduceBEq, Int.reduceToNat, Int.reduceLT, Int.reduceLE, Int.reduceEq, Int.reduceNe, Int.reduceBEq, Int.reduceBNe, Int.reduceAdd, Int.reduceSub, Int.natCast_nonneg, Bool.false_eq_true, Bool.true_eq_false, eq_self]))
        | true =>
          refine AW.seq_k fun K hK => AW.region (by kernel_rfl) ?_
          simp -implicitDefEqProofs only [go_sem, ↓reduceIte, Nat.reduceEqDiff, Nat.reduceLT, Nat.reduceLeDiff, Nat.reduceAdd, Nat.reduceMul, Nat.reduceSub, Nat.reduceBEq, Int.reduceToNat, Int.reduceLT, Int.reduceLE, Int.reduceEq, Int.reduceNe, Int.reduceBEq, Int.reduceBNe, Int.reduceAdd, Int.reduceSub, Int.natCast_nonneg, Bool.false_eq_true, Bool.true_eq_false, eq_self, ofP_right, hrr, hrt, hss, hrb]
          refine hK _ ?_
          clear hK K
          refine AW.condS (by simp -implicitDefEqProofs only [go_sem, ↓reduceIte, Nat.reduceEqDiff, Nat.reduceLT, Nat.reduceLeDiff, Nat.reduceAdd, Nat.reduceMul, Nat.reduceSub, Nat.reduceBEq, Int.reduceToNat, Int.reduceLT, Int.reduceLE, Int.reduceEq, Int.reduceNe, Int.reduceBEq, Int.reduceBNe, Int.reduceAdd, Int.reduceSub, Int.natCast_nonneg, Bool.false_eq_true, Bool.true_eq_false, eq_self]; rfl) (fun h1 => ?_) (fun h1 => ?_)
          · clear h1
            obtain ⟨T0, hT⟩ := RowIs.of_right hrt
            obtain ⟨B0, hB⟩ := RowIs.of_right hrb
            have hTr := hT.of_v hr
            have hBs := hB.of_v hs
            have eT := hTr.ofP
            have eB := hBs.ofP
            generalize (ofP r.l).1 = p at eT
            generalize (ofP s.l).1 = q at eB
            have s1 := sz_le hT
            have s2 := sz_le hB
            have hpz : p.op = 0 ∧ p.ks.l = [] ∨ p.v.full = true := by
              rcases hT with ⟨h, _⟩ | ⟨hg, _⟩
              · rw [h] at eT
                refine .inl ⟨by rw [← Pt.op_v, eT]; rfl, ?_⟩
                have := Pt.kids_v p
                rw [eT] at this
                have : p.ks.l.map Pt.v = [] := this.symm
                simpa using this
              · rw [eT]; exact .inr (T.good_full T0 hg).1
            have hpsz : p.v.size ≤ 62 := by
              rcases hT with ⟨h, _⟩ | ⟨hg, _⟩
              · rw [eT, h]; decide
              · rw [eT, (T.good_full T0 hg).2]; omega
            refine AW.seq_k fun K hK => AW.region (by kernel_rfl) ?_
            simp -implicitDefEqProofs only [go_sem, ↓reduceIte, Nat.reduceEqDiff, Nat.reduceLT, Nat.reduceLeDiff, Nat.reduceAdd, Nat.reduceMul, Nat.reduceSub, Nat.reduceBEq, Int.reduceToNat, Int.reduceLT, Int.reduceLE, Int.reduceEq, Int.reduceNe, Int.reduceBEq, Int.reduceBNe, Int.reduceAdd, Int.reduceSub, Int.natCast_nonneg, Bool.false_eq_true, Bool.true_eq_false, eq_self]
            refine CallA.pure hG (by kernel_rfl) ?_
            simp -implicitDefEqProofs only [go_sem, ↓reduceIte, Nat.reduceEqDiff, Nat.reduceLT, Nat.reduceLeDiff, Nat.reduceAdd, Nat.reduceMul, Nat.reduceSub, Nat.reduceBEq, Int.reduceToNat, Int.reduceLT, Int.reduceLE, Int.reduceEq, Int.reduceNe, Int.reduceBEq, Int.reduceBNe, Int.reduceAdd, Int.reduceSub, Int.natCast_nonneg, Bool.false_eq_true, Bool.true_eq_false, eq_self]
            have hih := rReady_spec G hG p.dep .any p 0 (Nat.le_refl _) (by omega) hpz
            rw [encPt_K, show ((0 : Nat) : Int) = 0 from rfl] at hih
            refine hih.mono ?_
            rintro _ _ rfl
            simp -implicitDefEqProofs only [go_sem, ↓reduceIte, Nat.reduceEqDiff, Nat.reduceLT, Nat.reduceLeDiff, Nat.reduceAdd, Nat.reduceMul, Nat.reduceSub, Nat.reduceBEq, Int.reduceToNat, Int.reduceLT, Int.reduceLE, Int.reduceEq, Int.reduceNe, Int.reduceBEq, Int.reduceBNe, Int.reduceAdd, Int.reduceSub, Int.natCast_nonneg, Bool.false_eq_true, Bool.true_eq_false, eq_self]
            refine hK _ ?_
            clear hK K
            rw [show p.v.ready 0 = readyP t.l by rw [eT]; exact ready_eq hT]
            have hrl60 := readyP_len t.l
            generalize hL : readyP t.l = L at hrl60
            refine AW.seq_k fun K hK => AW.region (by kernel_rfl) ?_
            simp -implicitDefEqProofs only [go_sem, ↓reduceIte, Nat.reduceEqDiff, Nat.reduceLT, Nat.reduceLeDiff, Nat.reduceAdd, Nat.reduceMul, Nat.reduceSub, Nat.reduceBEq, Int.reduceToNat, Int.reduceLT, Int.reduceLE, Int.reduceEq, Int.reduceNe, Int.reduceBEq, Int.reduceBNe, Int.reduceAdd, Int.reduceSub, Int.natCast_nonneg, Bool.false_eq_true, Bool.true_eq_false, eq_self]
            refine hK _ ?_
            clear hK K
            refine AW.block ?_
            refine AW.for L.length (fun k (u : Sl Nd) => st [(1, .int .i64 leaf), (3, .ptr 3 g3 0), (5, .ptr 5 g5 0), (7, encSl .new 3 (encNd .new) r), (8, .ptr 8 g8 0), (10, .ptr 10 g10 0), (12, encSl .new 3 (encNd .new) u), (13, encSl .new 1 (V.int .i64) (grownS L)), (14, .int .i64 k)]
                [(3, .cells .new g3 0 [encSl .old 3 (encNd .old) t]), (5, .cells .new g5 0 [encSl .old 3 (encNd .old) b]), (8, .cells .new g8 0 [.int .u8 p.op, .int .i64 p.pl, encSl .any 3 (encPt .any) p.ks]), (10, .cells .new g10 0 [.int .u8 q.op, .int .i64 q.pl, encSl .any 3 (encPt .any) q.ks])])
              (fun k u => (u = r ∧ leaf ∉ L.take k) ∨ (leaf ∈ L ∧ u.l.map Nd.v = (takeP t.l leaf b.l).map Nd.v ∧ u.l.length < 1000 ∧ ∀ n ∈ u.l, n.kids.l.length < 1000)) 0 r (Nat.zero_le _) (.inl ⟨rfl, by simp⟩)
              (Weak.st (by simp -implicitDefEqProofs only [go_sem, ↓reduceIte, Nat.reduceEqDiff, Nat.reduceLT, Nat.reduceLeDiff, Nat.reduceAdd, Nat.reduceMul, Nat.reduceSub, Nat.reduceBEq, Int.reduceToNat, Int.reduceLT, Int.reduceLE, Int.reduceEq, Int.reduceNe, Int.reduceBEq, Int.reduceBNe, Int.reduceAdd, Int.reduceSub, Int.natCast_nonneg, Bool.false_eq_true, Bool.true_eq_false, eq_self]; simp) (by simp -implicitDefEqProofs only [go_sem, ↓reduceIte, Nat.reduceEqDiff, Nat.reduceLT, Nat.reduceLeDiff, Nat.reduceAdd, Nat.reduceMul, Nat.reduceSub, Nat.reduceBEq, Int.reduceToNat, Int.reduceLT, Int.reduceLE, Int.reduceEq, Int.reduceNe, Int.reduceBEq, Int.reduceBNe, Int.reduceAdd, Int.reduceSub, Int.natCast_nonneg, Bool.false_eq_true, Bool.true_eq_false, eq_self])) ?_
            intro k u hk hR L5 hL5
            refine AW.seq_k fun K6 hK6 => ?_
            refine AW.seq_k fun K hK => AW.region (by kernel_rfl) ?_
            simp -implicitDefEqProofs only [go_sem, ↓reduceIte, Nat.reduceEqDiff, Nat.reduceLT, Nat.reduceLeDiff, Nat.reduceAdd, Nat.reduceMul, Nat.reduceSub, Nat.reduceBEq, Int.reduceToNat, Int.reduceLT, Int.reduceLE, Int.reduceEq, Int.reduceNe, Int.reduceBEq, Int.reduceBNe, Int.reduceAdd, Int.reduceSub, Int.natCast_nonneg, Bool.false_eq_true, Bool.true_eq_false, eq_self]
            refine hK _ ?_
            clear hK K
            refine AW.condS (by simp -implicitDefEqProofs only [go_sem, ↓reduceIte, Nat.reduceEqDiff, Nat.reduceLT, Nat.reduceLeDiff, Nat.reduceAdd, Nat.reduceMul, Nat.reduceSub, Nat.reduceBEq, Int.reduceToNat, Int.reduceLT, Int.reduceLE, Int.reduceEq, Int.reduceNe, Int.reduceBEq, Int.reduceBNe, Int.reduceAdd, Int.reduceSub, Int.natCast_nonneg, Bool.false_eq_true, Bool.true_eq_false, eq_self]; rfl) (fun h7 => ?_) (fun h7 => ?_)
            · -- true
              refine AW.skip ?_
              simp -implicitDefEqProofs only [go_sem, ↓reduceIte, Nat.reduceEqDiff, Nat.reduceLT, Nat.reduceLeDiff, Nat.reduceAdd, Nat.reduceMul, Nat.reduceSub, Nat.reduceBEq, Int.reduceToNat, Int.reduceLT, Int.reduceLE, Int.reduceEq, Int.reduceNe, Int.reduceBEq, Int.reduceBNe, Int.reduceAdd, Int.reduceSub, Int.natCast_nonneg, Bool.false_eq_true, Bool.true_eq_false, eq_self]
              refine hK6 _ ?_
              have hk1 : k < L.length := by simpa using h7
              have hgi := List.getElem?_eq_getElem hk1
              have hm := List.getElem_mem hk1
              generalize hx : L[k] = x at hgi hm
              have hT0g : T0.good := by
                rcases hT with ⟨_, h⟩ | ⟨hg, _⟩
                · rw [h, show readyP [] = [] from rfl] at hL
                  rw [← hL] at hm; cases hm
                · exact hg
              have hp0 : (p.op == 0) = false := by
                rw [← Pt.op_v, eT]
                simpa using T.good_op hT0g
              refine AW.seq_k fun K8 hK8 => ?_
              refine AW.block ?_
              by_cases hxe : x = leaf
              · subst hxe
                refine AW.seq_k fun K hK => AW.region (by kernel_rfl) ?_
                simp -implicitDefEqProofs only [go_sem, ↓reduceIte, Nat.reduceEqDiff, Nat.reduceLT, Nat.reduceLeDiff, Nat.reduceAdd, Nat.reduceMul, Nat.reduceSub, Nat.reduceBEq, Int.reduceToNat, Int.reduceLT, Int.reduceLE, Int.reduceEq, Int.reduceNe, Int.reduceBEq, Int.reduceBNe, Int.reduceAdd, Int.reduceSub, Int.natCast_nonneg, Bool.false_eq_true, Bool.true_eq_false, eq_self, hgi, beq_self_eq_true, bne, hp0, Bool.not_false]
                refine hK _ ?_
                clear hK K
                refine AW.condS (by simp -implicitDefEqProofs only [go_sem, ↓reduceIte, Nat.reduceEqDiff, Nat.reduceLT, Nat.reduceLeDiff, Nat.reduceAdd, Nat.reduceMul, Nat.reduceSub, Nat.reduceBEq, Int.reduceToNat, Int.reduceLT, Int.reduceLE, Int.reduceEq, Int.reduceNe, Int.reduceBEq, Int.reduceBNe, Int.reduceAdd, Int.reduceSub, Int.natCast_nonneg, Bool.false_eq_true, Bool.true_eq_false, eq_self]; rfl) (fun h9 => ?_) (fun h9 => ?_)
                · -- taken
                  obtain ⟨q1, q2, _, q3, q4, q5⟩ := takeP_row hT hB htl hbl (leaf := x) (by rw [hL]; simpa using hm)
                  have etk := Pt.take_v q p.dep p x (Nat.le_refl _)
                  rw [eT, eB] at etk
                  refine AW.region (by kernel_rfl) ?_
                  simp -implicitDefEqProofs only [go_sem, ↓reduceIte, Nat.reduceEqDiff, Nat.reduceLT, Nat.reduceLeDiff, Nat.reduceAdd, Nat.reduceMul, Nat.reduceSub, Nat.reduceBEq, Int.reduceToNat, Int.reduceLT, Int.reduceLE, Int.reduceEq, Int.reduceNe, Int.reduceBEq, Int.reduceBNe, Int.reduceAdd, Int.reduceSub, Int.natCast_nonneg, Bool.false_eq_true, Bool.true_eq_false, eq_self]
                  refine CallA.pure hG (by kernel_rfl) ?_
                  simp -implicitDefEqProofs only [go_sem, ↓reduceIte, Nat.reduceEqDiff, Nat.reduceLT, Nat.reduceLeDiff, Nat.reduceAdd, Nat.reduceMul, Nat.reduceSub, Nat.reduceBEq, Int.reduceToNat, Int.reduceLT, Int.reduceLE, Int.reduceEq, Int.reduceNe, Int.reduceBEq, Int.reduceBNe, Int.reduceAdd, Int.reduceSub, Int.natCast_nonneg, Bool.false_eq_true, Bool.true_eq_false, eq_self]
                  have hih := rTake_spec G hG p.dep p x q (takeOk_of p.dep p x (Nat.le_refl _) (by rw [eT]; exact hT0g) (by rw [eT, eB]; omega)) q3 (by omega)
                  rw [encPt_K .any p, encPt_K .any q] at hih
                  refine hih.mono ?_
                  rintro _ _ rfl
                  generalize Pt.take p.dep p x q = z at etk
                  simp -implicitDefEqProofs only [go_sem, ↓reduceIte, Nat.reduceEqDiff, Nat.reduceLT, Nat.reduceLeDiff, Nat.reduceAdd, Nat.reduceMul, Nat.reduceSub, Nat.reduceBEq, Int.reduceToNat, Int.reduceLT, Int.reduceLE, Int.reduceEq, Int.reduceNe, Int.reduceBEq, Int.reduceBNe, Int.reduceAdd, Int.reduceSub, Int.natCast_nonneg, Bool.false_eq_true, Bool.true_eq_false, eq_self]
                  refine CallA.pure hG (by kernel_rfl) ?_
                  simp -implicitDefEqProofs only [go_sem, ↓reduceIte, Nat.reduceEqDiff, Nat.reduceLT, Nat.reduceLeDiff, Nat.reduceAdd, Nat.reduceMul, Nat.reduceSub, Nat.reduceBEq, Int.reduceToNat, Int.reduceLT, Int.reduceLE, Int.reduceEq, Int.reduceNe, Int.reduceBEq, Int.reduceBNe, Int.reduceAdd, Int.reduceSub, Int.natCast_nonneg, Bool.false_eq_true, Bool.true_eq_false, eq_self]
                  have hzf : z.op = 0 ∨ z.v.full = true := by
                    rw [← Pt.op_v, etk]
                    rcases q1 with ⟨h, _⟩ | ⟨h, _⟩
                    · exact .inl (by rw [h]; rfl)
                    · exact .inr (T.good_full _ h).1
                  have hzs : z.v.size < 1000000000 := by
                    rw [etk]
                    rcases q1 with ⟨h, _⟩ | ⟨h, _⟩
                    · rw [h]; decide
                    · rw [(T.good_full _ h).2]; omega
                  have hih := rRow_spec G hG z.dep z (Nat.le_refl _) hzf hzs
                  rw [encPt_K .any z] at hih
                  refine hih.mono ?_
                  rintro _ _ rfl
                  have hrow : z.v.row.map Nd.v = (takeP t.l x b.l).map Nd.v := by rw [etk]; exact q1.row_v.symm
                  have hlens := (q1.of_v hrow).lens q5
                  generalize z.v.row = row at hrow hlens
                  simp -implicitDefEqProofs only [go_sem, ↓reduceIte, Nat.reduceEqDiff, Nat.reduceLT, Nat.reduceLeDiff, Nat.reduceAdd, Nat.reduceMul, Nat.reduceSub, Nat.reduceBEq, Int.reduceToNat, Int.reduceLT, Int.reduceLE, Int.reduceEq, Int.reduceNe, Int.reduceBEq, Int.reduceBNe, Int.reduceAdd, Int.reduceSub, Int.natCast_nonneg, Bool.false_eq_true, Bool.true_eq_false, eq_self]
                  refine hK8 _ ?_
                  refine AW.region (by kernel_rfl) ?_
                  simp -implicitDefEqProofs only [go_sem, ↓reduceIte, Nat.reduceEqDiff, Nat.reduceLT, Nat.reduceLeDiff, Nat.reduceAdd, Nat.reduceMul, Nat.reduceSub, Nat.reduceBEq, Int.reduceToNat, Int.reduceLT, Int.reduceLE, Int.reduceEq, Int.reduceNe, Int.reduceBEq, Int.reduceBNe, Int.reduceAdd, Int.reduceSub, Int.natCast_nonneg, Bool.false_eq_true, Bool.true_eq_false, eq_self]
                  refine hL5 _ ⟨hk1, grownS row, .inr ⟨hm, by rw [grownS_l]; exact ⟨hrow, hlens⟩⟩, Weak.st (by simp -implicitDefEqProofs only [go_sem, ↓reduceIte, Nat.reduceEqDiff, Nat.reduceLT, Nat.reduceLeDiff, Nat.reduceAdd, Nat.reduceMul, Nat.reduceSub, Nat.reduceBEq, Int.reduceToNat, Int.reduceLT, Int.reduceLE, Int.reduceEq, Int.reduceNe, Int.reduceBEq, Int.reduceBNe, Int.reduceAdd, Int.reduceSub, Int.natCast_nonneg, Bool.false_eq_true, Bool.true_eq_false, eq_self]; exact congrArg _ (w64 (by omega) (by omega))) (by simp -implicitDefEqProofs only [go_sem, ↓reduceIte, Nat.reduceEqDiff, Nat.reduceLT, Nat.reduceLeDiff, Nat.reduceAdd, Nat.reduceMul, Nat.reduceSub, Nat.reduceBEq, Int.reduceToNat, Int.reduceLT, Int.reduceLE, Int.reduceEq, Int.reduceNe, Int.reduceBEq, Int.reduceBNe, Int.reduceAdd, Int.reduceSub, Int.natCast_nonneg, Bool.false_eq_true, Bool.true_eq_false, eq_self])⟩
                · simp at h9
              · have hxf : (x == leaf) = false := by simpa using hxe
                refine AW.seq_k fun K hK => AW.region (by kernel_rfl) ?_
                simp -implicitDefEqProofs only [go_sem, ↓reduceIte, Nat.reduceEqDiff, Nat.reduceLT, Nat.reduceLeDiff, Nat.reduceAdd, Nat.reduceMul, Nat.reduceSub, Nat.reduceBEq, Int.reduceToNat, Int.reduceLT, Int.reduceLE, Int.reduceEq, Int.reduceNe, Int.reduceBEq, Int.reduceBNe, Int.reduceAdd, Int.reduceSub, Int.natCast_nonneg, Bool.false_eq_true, Bool.true_eq_false, eq_self, hgi, hxf]
                refine hK _ ?_
                clear hK K
                refine AW.condS (by simp -implicitDefEqProofs only [go_sem, ↓reduceIte, Nat.reduceEqDiff, Nat.reduceLT, Nat.reduceLeDiff, Nat.reduceAdd, Nat.reduceMul, Nat.reduceSub, Nat.reduceBEq, Int.reduceToNat, Int.reduceLT, Int.reduceLE, Int.reduceEq, Int.reduceNe, Int.reduceBEq, Int.reduceBNe, Int.reduceAdd, Int.reduceSub, Int.natCast_nonneg, Bool.false_eq_true, Bool.true_eq_false, eq_self]; rfl) (fun h9 => ?_) (fun h9 => ?_)
                · simp at h9
                · refine AW.skip ?_
                  simp -implicitDefEqProofs only [go_sem, ↓reduceIte, Nat.reduceEqDiff, Nat.reduceLT, Nat.reduceLeDiff, Nat.reduceAdd, Nat.reduceMul, Nat.reduceSub, Nat.reduceBEq, Int.reduceToNat, Int.reduceLT, Int.reduceLE, Int.reduceEq, Int.reduceNe, Int.reduceBEq, Int.reduceBNe, Int.reduceAdd, Int.reduceSub, Int.natCast_nonneg, Bool.false_eq_true, Bool.true_eq_false, eq_self]
                  refine hK8 _ ?_
                  refine AW.region (by kernel_rfl) ?_
                  simp -implicitDefEqProofs only [go_sem, ↓reduceIte, Nat.reduceEqDiff, Nat.reduceLT, Nat.reduceLeDiff, Nat.reduceAdd, Nat.reduceMul, Nat.reduceSub, Nat.reduceBEq, Int.reduceToNat, Int.reduceLT, Int.reduceLE, Int.reduceEq, Int.reduceNe, Int.reduceBEq, Int.reduceBNe, Int.reduceAdd, Int.reduceSub, Int.natCast_nonneg, Bool.false_eq_true, Bool.true_eq_false, eq_self]
                  refine hL5 _ ⟨hk1, u, ?_, Weak.st (by simp -implicitDefEqProofs only [go_sem, ↓reduceIte, Nat.reduceEqDiff, Nat.reduceLT, Nat.reduceLeDiff, Nat.reduceAdd, Nat.reduceMul, Nat.reduceSub, Nat.reduceBEq, Int.reduceToNat, Int.reduceLT, Int.reduceLE, Int.reduceEq, Int.reduceNe, Int.reduceBEq, Int.reduceBNe, Int.reduceAdd, Int.reduceSub, Int.natCast_nonneg, Bool.false_eq_true, Bool.true_eq_false, eq_self]; exact congrArg _ (w64 (by omega) (by omega))) (by simp -implicitDefEqProofs only [go_sem, ↓reduceIte, Nat.reduceEqDiff, Nat.reduceLT, Nat.reduceLeDiff, Nat.reduceAdd, Nat.reduceMul, Nat.reduceSub, Nat.reduceBEq, Int.reduceToNat, Int.reduceLT, Int.reduceLE, Int.reduceEq, Int.reduceNe, Int.reduceBEq, Int.reduceBNe, Int.reduceAdd, Int.reduceSub, Int.natCast_nonneg, Bool.false_eq_true, Bool.true_eq_false, eq_self])⟩
                  rcases hR with ⟨h1, h2⟩ | h
                  · refine .inl ⟨h1, ?_⟩
                    rw [List.take_succ_eq_append_getElem hk1, hx]
                    simp only [List.mem_append, List.mem_singleton, not_or]
                    exact ⟨h2, fun e => hxe e.symm⟩
                  · exact .inr h
            · refine AW.exit ?_
              simp -implicitDefEqProofs only [go_sem, ↓reduceIte, Nat.reduceEqDiff, Nat.reduceLT, Nat.reduceLeDiff, Nat.reduceAdd, Nat.reduceMul, Nat.reduceSub, Nat.reduceBEq, Int.reduceToNat, Int.reduceLT, Int.reduceLE, Int.reduceEq, Int.reduceNe, Int.reduceBEq, Int.reduceBNe, Int.reduceAdd, Int.reduceSub, Int.natCast_nonneg, Bool.false_eq_true, Bool.true_eq_false, eq_self]
              have hk1 : k = L.length := by simp at h7; omega
              refine hK3 _ u ?_ (Weak.st (by simp -implicitDefEqProofs only [go_sem, ↓reduceIte, Nat.reduceEqDiff, Nat.reduceLT, Nat.reduceLeDiff, Nat.reduceAdd, Nat.reduceMul, Nat.reduceSub, Nat.reduceBEq, Int.reduceToNat, Int.reduceLT, Int.reduceLE, Int.reduceEq, Int.reduceNe, Int.reduceBEq, Int.reduceBNe, Int.reduceAdd, Int.reduceSub, Int.natCast_nonneg, Bool.false_eq_true, Bool.true_eq_false, eq_self]) (by simp -implicitDefEqProofs only [go_sem, ↓reduceIte, Nat.reduceEqDiff, Nat.reduceLT, Nat.reduceLeDiff, Nat.reduceAdd, Nat.reduceMul, Nat.reduceSub, Nat.reduceBEq, Int.reduceToNat, Int.reduceLT, Int.reduceLE, Int.reduceEq, Int.reduceNe, Int.reduceBEq, Int.reduceBNe, Int.reduceAdd, Int.reduceSub, Int.natCast_nonneg, Bool.false_eq_true, Bool.true_eq_false, eq_self]))
              rcases hR with ⟨rfl, h2⟩ | ⟨_, h⟩
              · rw [hk1, List.take_length] at h2
                exact ⟨stay (by rw [hL]; simpa using fun _ => h2), hlr⟩
              · exact h
          · simp at h1
    · rintro u ⟨hu, hul, huk⟩
      have hq : (readyP t.l).length < 1000000000 := by have := readyP_len t.l; omega
      obtain ⟨hpl, hpk⟩ := takeP_lens (leaf := leaf) hf1 hf2
      have hok : rightP b.l = true ∧ (readyP t.l).contains leaf = true → TakeOk t.l leaf b.l t.l.length (t.l.length - 1) := by
        intro h
        obtain ⟨T0, hT⟩ := RowIs.of_right (ready_right h.2)
        obtain ⟨B0, hB⟩ := RowIs.of_right h.1
        exact (takeP_row hT hB htl hbl h.2).2.1
      refine AW.rebase hG fun X1 H1 hb1 hI1 => ?_
      simp -implicitDefEqProofs only [go_sem, ↓reduceIte, Nat.reduceEqDiff, Nat.reduceLT, Nat.reduceLeDiff, Nat.reduceAdd, Nat.reduceMul, Nat.reduceSub, Nat.reduceBEq, Int.reduceToNat, Int.reduceLT, Int.reduceLE, Int.reduceEq, Int.reduceNe, Int.reduceBEq, Int.reduceBNe, Int.reduceAdd, Int.reduceSub, Int.natCast_nonneg, Bool.false_eq_true, Bool.true_eq_false, eq_self, List.map_cons, List.map_nil, recol_cells, recol_ptr]
      refine AW.seq_k fun K hK => AW.region (by kernel_rfl) ?_
      simp -implicitDefEqProofs only [go_sem, ↓reduceIte, Nat.reduceEqDiff, Nat.reduceLT, Nat.reduceLeDiff, Nat.reduceAdd, Nat.reduceMul, Nat.reduceSub, Nat.reduceBEq, Int.reduceToNat, Int.reduceLT, Int.reduceLE, Int.reduceEq, Int.reduceNe, Int.reduceBEq, Int.reduceBNe, Int.reduceAdd, Int.reduceSub, Int.natCast_nonneg, Bool.false_eq_true, Bool.true_eq_false, eq_self]
      refine CallA.pure hG (by kernel_rfl) ?_
      simp -implicitDefEqProofs only [go_sem, ↓reduceIte, Nat.reduceEqDiff, Nat.reduceLT, Nat.reduceLeDiff, Nat.reduceAdd, Nat.reduceMul, Nat.reduceSub, Nat.reduceBEq, Int.reduceToNat, Int.reduceLT, Int.reduceLE, Int.reduceEq, Int.reduceNe, Int.reduceBEq, Int.reduceBNe, Int.reduceAdd, Int.reduceSub, Int.natCast_nonneg, Bool.false_eq_true, Bool.true_eq_false, eq_self]
      refine (take_spec G hG _ _ _ _ t leaf b (by omega) (fun n hn => by have := htk n hn; omega) (by omega) (fun n hn => by have := hbk n hn; omega) hq hok).mono ?_
      rintro _ _ rfl
      simp -implicitDefEqProofs only [go_sem, ↓reduceIte, Nat.reduceEqDiff, Nat.reduceLT, Nat.reduceLeDiff, Nat.reduceAdd, Nat.reduceMul, Nat.reduceSub, Nat.reduceBEq, Int.reduceToNat, Int.reduceLT, Int.reduceLE, Int.reduceEq, Int.reduceNe, Int.reduceBEq, Int.reduceBNe, Int.reduceAdd, Int.reduceSub, Int.natCast_nonneg, Bool.false_eq_true, Bool.true_eq_false, eq_self]
      intro g15
      refine hK _ ?_
      clear hK K
      refine AW.seq_k fun K4 hK4 => ?_
      refine AW.seq_k fun K hK => AW.region (by kernel_rfl) ?_
      simp -implicitDefEqProofs only [go_sem, ↓reduceIte, Nat.reduceEqDiff, Nat.reduceLT, Nat.reduceLeDiff, Nat.reduceAdd, Nat.reduceMul, Nat.reduceSub, Nat.reduceBEq, Int.reduceToNat, Int.reduceLT, Int.reduceLE, Int.reduceEq, Int.reduceNe, Int.reduceBEq, Int.reduceBNe, Int.reduceAdd, Int.reduceSub, Int.natCast_nonneg, Bool.false_eq_true, Bool.true_eq_false, eq_self]
      refine CallA.pure hG (by kernel_rfl) ?_
      simp -implicitDefEqProofs only [go_sem, ↓reduceIte, Nat.reduceEqDiff, Nat.reduceLT, Nat.reduceLeDiff, Nat.reduceAdd, Nat.reduceMul, Nat.reduceSub, Nat.reduceBEq, Int.reduceToNat, Int.reduceLT, Int.reduceLE, Int.reduceEq, Int.reduceNe, Int.reduceBEq, Int.reduceBNe, Int.reduceAdd, Int.reduceSub, Int.natCast_nonneg, Bool.false_eq_true, Bool.true_eq_false, eq_self]
      refine (is_spec G hG _ _ _ _ _ u (by omega) (by rw [grownS_l]; exact fun n hn => by have := hpk n hn; omega) (fun n hn => by have := huk n hn; omega)).mono ?_
      rintro _ _ rfl
      simp -implicitDefEqProofs only [go_sem, ↓reduceIte, Nat.reduceEqDiff, Nat.reduceLT, Nat.reduceLeDiff, Nat.reduceAdd, Nat.reduceMul, Nat.reduceSub, Nat.reduceBEq, Int.reduceToNat, Int.reduceLT, Int.reduceLE, Int.reduceEq, Int.reduceNe, Int.reduceBEq, Int.reduceBNe, Int.reduceAdd, Int.reduceSub, Int.natCast_nonneg, Bool.false_eq_true, Bool.true_eq_false, eq_self, hu, beq_self_eq_true]
      refine hK _ ?_
      clear hK K
      refine AW.condS (by simp -implicitDefEqProofs only [go_sem, ↓reduceIte, Nat.reduceEqDiff, Nat.reduceLT, Nat.reduceLeDiff, Nat.reduceAdd, Nat.reduceMul, Nat.reduceSub, Nat.reduceBEq, Int.reduceToNat, Int.reduceLT, Int.reduceLE, Int.reduceEq, Int.reduceNe, Int.reduceBEq, Int.reduceBNe, Int.reduceAdd, Int.reduceSub, Int.natCast_nonneg, Bool.false_eq_true, Bool.true_eq_false, eq_self]; rfl) (fun h5 => ?_) (fun h5 => ?_)
      · simp at h5
      · refine AW.skip ?_
        simp -implicitDefEqProofs only [go_sem, ↓reduceIte, Nat.reduceEqDiff, Nat.reduceLT, Nat.reduceLeDiff, Nat.reduceAdd, Nat.reduceMul, Nat.reduceSub, Nat.reduceBEq, Int.reduceToNat, Int.reduceLT, Int.reduceLE, Int.reduceEq, Int.reduceNe, Int.reduceBEq, Int.reduceBNe, Int.reduceAdd, Int.reduceSub, Int.natCast_nonneg, Bool.false_eq_true, Bool.true_eq_false, eq_self]
        refine hK4 _ ?_
        refine AW.seq_k fun K hK => AW.spoils [(3, .ptr 3 g3 0), (7, encSl .old 3 (encNd .old) r)] [(3, .cells .old g3 0 [encSl .old 3 (encNd .old) t])] hb1 hI1 hGo (spoil_spec 1000 1000 (by omega) (by omega)) (by intro s hs; simp at hs; subst hs; exact free_tree) (by kernel_rfl) (by kernel_rfl) (by kernel_rfl) rfl ?_ ?_ ?_
        · simp -implicitDefEqProofs only [go_sem, ↓reduceIte, Nat.reduceEqDiff, Nat.reduceLT, Nat.reduceLeDiff, Nat.reduceAdd, Nat.reduceMul, Nat.reduceSub, Nat.reduceBEq, Int.reduceToNat, Int.reduceLT, Int.reduceLE, Int.reduceEq, Int.reduceNe, Int.reduceBEq, Int.reduceBNe, Int.reduceAdd, Int.reduceSub, Int.natCast_nonneg, Bool.false_eq_true, Bool.true_eq_false, eq_self]
          exact ⟨.ptr _ _ _, old_nds r⟩
        · simp -implicitDefEqProofs only [go_sem, ↓reduceIte, Nat.reduceEqDiff, Nat.reduceLT, Nat.reduceLeDiff, Nat.reduceAdd, Nat.reduceMul, Nat.reduceSub, Nat.reduceBEq, Int.reduceToNat, Int.reduceLT, Int.reduceLE, Int.reduceEq, Int.reduceNe, Int.reduceBEq, Int.reduceBNe, Int.reduceAdd, Int.reduceSub, Int.natCast_nonneg, Bool.false_eq_true, Bool.true_eq_false, eq_self]
          simp only [List.mem_singleton, forall_eq]
          exact old_nds t
        · simp -implicitDefEqProofs only [go_sem, ↓reduceIte, Nat.reduceEqDiff, Nat.reduceLT, Nat.reduceLeDiff, Nat.reduceAdd, Nat.reduceMul, Nat.reduceSub, Nat.reduceBEq, Int.reduceToNat, Int.reduceLT, Int.reduceLE, Int.reduceEq, Int.reduceNe, Int.reduceBEq, Int.reduceBNe, Int.reduceAdd, Int.reduceSub, Int.natCast_nonneg, Bool.false_eq_true, Bool.true_eq_false, eq_self, List.dropLast]
          refine ⟨shTree_enc (by rw [grownS_l]; omega) (by rw [grownS_l]; exact fun n hn => by have := hpk n hn; omega), rfl, rfl, hK _ ?_⟩
          clear hK K
          refine AW.seq_k fun K hK => AW.region (by kernel_rfl) ?_
          simp -implicitDefEqProofs only [go_sem, ↓reduceIte, Nat.reduceEqDiff, Nat.reduceLT, Nat.reduceLeDiff, Nat.reduceAdd, Nat.reduceMul, Nat.reduceSub, Nat.reduceBEq, Int.reduceToNat, Int.reduceLT, Int.reduceLE, Int.reduceEq, Int.reduceNe, Int.reduceBEq, Int.reduceBNe, Int.reduceAdd, Int.reduceSub, Int.natCast_nonneg, Bool.false_eq_true, Bool.true_eq_false, eq_self]
          refine CallA.pure hG (by kernel_rfl) ?_
          simp -implicitDefEqProofs only [go_sem, ↓reduceIte, Nat.reduceEqDiff, Nat.reduceLT, Nat.reduceLeDiff, Nat.reduceAdd, Nat.reduceMul, Nat.reduceSub, Nat.reduceBEq, Int.reduceToNat, Int.reduceLT, Int.reduceLE, Int.reduceEq, Int.reduceNe, Int.reduceBEq, Int.reduceBNe, Int.reduceAdd, Int.reduceSub, Int.natCast_nonneg, Bool.false_eq_true, Bool.true_eq_false, eq_self]
          refine (is_spec G hG _ _ _ _ t r (by omega) (fun n hn => by have := htk n hn; omega) (fun n hn => by have := hrk n hn; omega)).mono ?_
          rintro _ _ rfl
          simp -implicitDefEqProofs only [go_sem, ↓reduceIte, Nat.reduceEqDiff, Nat.reduceLT, Nat.reduceLeDiff, Nat.reduceAdd, Nat.reduceMul, Nat.reduceSub, Nat.reduceBEq, Int.reduceToNat, Int.reduceLT, Int.reduceLE, Int.reduceEq, Int.reduceNe, Int.reduceBEq, Int.reduceBNe, Int.reduceAdd, Int.reduceSub, Int.natCast_nonneg, Bool.false_eq_true, Bool.true_eq_false, eq_self, hr, beq_self_eq_true]
          refine CallA.pure hG (by kernel_rfl) ?_
          simp -implicitDefEqProofs only [go_sem, ↓reduceIte, Nat.reduceEqDiff, Nat.reduceLT, Nat.reduceLeDiff, Nat.reduceAdd, Nat.reduceMul, Nat.reduceSub, Nat.reduceBEq, Int.reduceToNat, Int.reduceLT, Int.reduceLE, Int.reduceEq, Int.reduceNe, Int.reduceBEq, Int.reduceBNe, Int.reduceAdd, Int.reduceSub, Int.natCast_nonneg, Bool.false_eq_true, Bool.true_eq_false, eq_self, List.map_nil]
          refine (works_spec G hG).mono ?_
          rintro _ _ rfl
          simp -implicitDefEqProofs only [go_sem, ↓reduceIte, Nat.reduceEqDiff, Nat.reduceLT, Nat.reduceLeDiff, Nat.reduceAdd, Nat.reduceMul, Nat.reduceSub, Nat.reduceBEq, Int.reduceToNat, Int.reduceLT, Int.reduceLE, Int.reduceEq, Int.reduceNe, Int.reduceBEq, Int.reduceBNe, Int.reduceAdd, Int.reduceSub, Int.natCast_nonneg, Bool.false_eq_true, Bool.true_eq_false, eq_self]
          refine hK _ ?_
          clear hK K
          refine AW.ret ?_
          simp -implicitDefEqProofs only [go_sem, ↓reduceIte, Nat.reduceEqDiff, Nat.reduceLT, Nat.reduceLeDiff, Nat.reduceAdd, Nat.reduceMul, Nat.reduceSub, Nat.reduceBEq, Int.reduceToNat, Int.reduceLT, Int.reduceLE, Int.reduceEq, Int.reduceNe, Int.reduceBEq, Int.reduceBNe, Int.reduceAdd, Int.reduceSub, Int.natCast_nonneg, Bool.false_eq_true, Bool.true_eq_false, eq_self]
          refine endK_some ?_
          rfl
end Go.Hs
end
