/- Part 29 of the proof of a statement of seat Ythlkacbgaclkkaa: HsF15 HsF34 HsF33 HsF32 HsF20 HsF14 HsF16 HsTreeLaw HsF25 HsF26 HsF09. -/
import Derived.Test.YthlkacbgaclkkaaPart18
import Derived.Test.YthlkacbgaclkkaaPart24
import Derived.Test.YthlkacbgaclkkaaPart28
set_option linter.unusedSimpArgs false
set_option linter.unusedVariables false
section
namespace Go.Hs
open Go.Proofs
set_option maxRecDepth 10000
def shInts (M : Nat) : Sh := .row false 1 M (fun _ => .int .i64)
def shNd (M : Nat) (i : Nat) : Sh := match i with | 0 => .int .u8 | 1 => .int .i64 | _ => shInts M
theorem all_map {α : Type} {f : α → V} {R : α → Prop} : ∀ {l : List V}, (∀ u ∈ l, ∃ x, u = f x ∧ R x) → ∃ m : List α, l = m.map f ∧ ∀ x ∈ m, R x
  | [], _ => ⟨[], rfl, by simp⟩
  | u :: r, h => by
    obtain ⟨x, rfl, hx⟩ := h u (by simp)
    obtain ⟨m, rfl, hm⟩ := all_map (f := f) (R := R) (l := r) fun v hv => h v (by simp [hv])
    exact ⟨x :: m, rfl, by simpa using ⟨hx, hm⟩⟩
theorem cells_one {u : V} (h1 : u.cells.length = 1) (h : u = mkV false u.cells) : u.cells = [u] := by
  generalize u.cells = l at *
  match l, h1 with
  | [c], _ => exact congrArg (fun x => [x]) h.symm
theorem shInts_inv {c c' : Col} {M : Nat} {v : V} (h : ShV c c' (shInts M) v) : ∃ s : Sl Int, v = encSl c 1 (V.int .i64) s ∧ s.l.length ≤ M := by
  rcases h with rfl | ⟨clip, l, rfl, hl, hu⟩
  · exact ⟨.nil, rfl, by simp [Sl.l]⟩
  · obtain ⟨m, rfl, _⟩ := all_map (f := V.int .i64) (R := fun _ => True) (l := l) fun u hu' => by
      obtain ⟨h1, h2, h3⟩ := hu u hu'
      obtain ⟨n, hn⟩ := h3 0 (by omega)
      have := cells_one h1 h2
      simp only [this, List.getElem_cons_zero] at hn
      exact ⟨n, hn, trivial⟩
    exact ⟨.mk clip m, rfl, by simpa [Sl.l] using hl⟩
theorem els_inv {c c' : Col} {M : Nat} {l : List V} (hu : ∀ u ∈ l, u.cells.length = 3 ∧ u = mkV true u.cells ∧ ∀ i (h : i < u.cells.length), ShV c c' (shNd M i) u.cells[i]) : ∃ m : List Nd, l = m.map (encNd c) ∧ ∀ n ∈ m, n.kids.l.length ≤ M :=
  all_map (f := encNd c) (R := fun n => n.kids.l.length ≤ M) (l := l) fun u hu' => by
    obtain ⟨h1, h2, h3⟩ := hu u hu'
    generalize u.cells = cs at *
    match cs, h1 with
    | [a, b, d], _ =>
      obtain ⟨x, hx⟩ := h3 0 (by simp)
      obtain ⟨y, hy⟩ := h3 1 (by simp)
      obtain ⟨s, hs, hl⟩ := shInts_inv (h3 2 (by simp))
      simp only [List.getElem_cons_zero, List.getElem_cons_succ] at hx hy hs
      exact ⟨⟨x, y, s⟩, by rw [h2, hx, hy, hs]; rfl, hl⟩
def shNds (N M : Nat) : Sh := .row true 3 N (shNd M)
def shNdsN (N M : Nat) : Sh := .rowN true false 3 N (shNd M)
theorem shNds_inv {c c' : Col} {N M : Nat} {v : V} (h : ShV c c' (shNds N M) v) : ∃ t : Sl Nd, v = encSl c 3 (encNd c) t ∧ t.l.length ≤ N ∧ ∀ n ∈ t.l, n.kids.l.length ≤ M := by
  rcases h with rfl | ⟨clip, l, rfl, hl, hu⟩
  · exact ⟨.nil, rfl, by simp [Sl.l], by simp [Sl.l]⟩
  · obtain ⟨m, rfl, hm⟩ := els_inv hu
    exact ⟨.mk clip m, rfl, by simpa [Sl.l] using hl, by simpa [Sl.l] using hm⟩
theorem shNdsN_inv {c c' : Col} {N M : Nat} {v : V} (h : ShV c c' (shNdsN N M) v) : ∃ t : Sl Nd, v = encSl c 3 (encNd c) t ∧ t.l.length = N ∧ ∀ n ∈ t.l, n.kids.l.length ≤ M := by
  rcases h with ⟨rfl, h0⟩ | ⟨clip, l, rfl, hl, hu⟩
  · exact ⟨.nil, rfl, by simp [Sl.l, h0], by simp [Sl.l]⟩
  · obtain ⟨m, rfl, hm⟩ := els_inv hu
    exact ⟨.mk clip m, rfl, by simpa [Sl.l] using hl, by simpa [Sl.l] using hm⟩
theorem shBox_inv {N M : Nat} {v : V} (h : ShV .old .new (.ptr true true 1 (fun _ => shNdsN N M)) v) : ∃ t : Sl Nd, v = .view .new (encTree .old .old t) ∧ t.l.length = N ∧ ∀ n ∈ t.l, n.kids.l.length ≤ M := by
  obtain ⟨u, rfl, h1, h2, h3⟩ := h
  generalize u.cells = cs at *
  match cs, h1 with
  | [a], _ =>
    obtain ⟨t, ht, hl⟩ := shNdsN_inv (h3 0 (by simp))
    simp only [List.getElem_cons_zero] at ht
    exact ⟨t, by rw [h2, ht]; rfl, hl⟩
theorem shInts_enc {c c' : Col} {M : Nat} {s : Sl Int} (h : s.l.length ≤ M) : ShV c c' (shInts M) (encSl c 1 (V.int .i64) s) := by
  cases s with
  | nil => exact .inl rfl
  | mk b l =>
    refine .inr ⟨b, _, rfl, by simpa [Sl.l] using h, ?_⟩
    intro u hu
    obtain ⟨n, _, rfl⟩ := List.mem_map.1 hu
    exact ⟨rfl, rfl, fun i hi => ⟨n, by simp [V.cells]⟩⟩
theorem shNd_enc {c c' : Col} {M : Nat} {n : Nd} (h : n.kids.l.length ≤ M) : ∀ i (hi : i < (encNd c n).cells.length), ShV c c' (shNd M i) (encNd c n).cells[i] := by
  intro i hi
  have hi : i < 3 := hi
  match i, hi with
  | 0, _ => exact ⟨_, rfl⟩
  | 1, _ => exact ⟨_, rfl⟩
  | 2, _ => exact shInts_enc h
theorem shNds_enc {c c' : Col} {N M : Nat} {t : Sl Nd} (h : t.l.length ≤ N) (hk : ∀ n ∈ t.l, n.kids.l.length ≤ M) : ShV c c' (shNds N M) (encSl c 3 (encNd c) t) := by
  cases t with
  | nil => exact .inl rfl
  | mk b l =>
    refine .inr ⟨b, _, rfl, by simpa [Sl.l] using h, ?_⟩
    intro u hu
    obtain ⟨n, hn, rfl⟩ := List.mem_map.1 hu
    exact ⟨rfl, rfl, shNd_enc (hk n hn)⟩
theorem shNdsN_enc {c c' : Col} {N M : Nat} {t : Sl Nd} (h : t.l.length = N) (hk : ∀ n ∈ t.l, n.kids.l.length ≤ M) : ShV c c' (shNdsN N M) (encSl c 3 (encNd c) t) := by
  cases t with
  | nil => exact .inl ⟨rfl, by simpa [Sl.l] using h.symm⟩
  | mk b l =>
    refine .inr ⟨b, _, rfl, by simpa [Sl.l] using h, ?_⟩
    intro u hu
    obtain ⟨n, hn, rfl⟩ := List.mem_map.1 hu
    exact ⟨rfl, rfl, shNd_enc (hk n hn)⟩
theorem shBox_enc {N M : Nat} {t : Sl Nd} (h : t.l.length = N) (hk : ∀ n ∈ t.l, n.kids.l.length ≤ M) : ShV .old .new (.ptr true true 1 (fun _ => shNdsN N M)) (.view .new (encTree .old .old t)) :=
  ⟨_, rfl, rfl, rfl, fun i hi => by
    have hi : i < 1 := hi
    have : i = 0 := by omega
    subst this
    exact shNdsN_enc h hk⟩
theorem shTree_enc {N M : Nat} {t : Sl Nd} (h : t.l.length ≤ N) (hk : ∀ n ∈ t.l, n.kids.l.length ≤ M) : ShV .new .new (.agg 1 (fun _ => shNds N M)) (encTree .new .new t) :=
  ⟨_, rfl, rfl, fun i hi => by
    have hi : i < 1 := hi
    have : i = 0 := by omega
    subst this
    exact shNds_enc h hk⟩
theorem shTree_inv {N M : Nat} {v : V} (h : ShV .old .new (.agg 1 (fun _ => shNds N M)) v) : ∃ t : Sl Nd, v = encTree .old .old t ∧ t.l.length ≤ N ∧ ∀ n ∈ t.l, n.kids.l.length ≤ M := by
  obtain ⟨l, rfl, h1, h3⟩ := h
  match l, h1 with
  | [a], _ =>
    obtain ⟨t, ht, hl⟩ := shNds_inv (h3 0 (by simp))
    simp only [List.getElem_cons_zero] at ht
    exact ⟨t, by rw [ht]; rfl, hl⟩
theorem free_nd {M : Nat} : ∀ i, i < 3 → (shNd M i).free := by
  intro i hi
  match i, hi with
  | 0, _ => trivial
  | 1, _ => trivial
  | 2, _ => intro j hj; trivial
theorem free_tree {N M : Nat} : (Sh.agg 1 (fun _ => shNds N M)).free := fun i _ => free_nd
theorem freeT_L {N M : Nat} (l : List (Nat × Sh)) (hl : ∀ p ∈ l, ∃ k n, p.2 = .lit k n) : ∀ p ∈ ((1, Sh.ptr true true 1 (fun _ => shNdsN N M)) :: l), p.2.freeT := by
  intro p hp
  cases hp with
  | head =>
    show ∀ i, i < 1 → (shNdsN N M).freeT
    intro i _
    show ∀ i, i < 3 → (shNd M i).free
    exact free_nd
  | tail _ hp => obtain ⟨k, n, h⟩ := hl p hp; rw [h]; trivial
/- hopscotchlaw22.spoil -/
theorem spoil_spec (N0 M : Nat) (hN : N0 < 1000000000) (hM : M < 1000000000) : Spoils Try.prog 15 [.agg 1 (fun _ => shNds N0 M)] := by
  refine Spoils.of_code (n := 35) rfl rfl rfl rfl rfl fun w0 B C => ?_
  refine AK.pre 0 ?_
  rintro w _ ⟨v0, _, rfl, h0, rfl⟩
  obtain ⟨t, rfl, hl, hk⟩ := shTree_inv h0
  refine AW.region (by kernel_rfl) ?_
  simp -implicitDefEqProofs only [go_sem, ↓reduceIte, Nat.reduceEqDiff, Nat.reduceLT, Nat.reduceLeDiff, Nat.reduceAdd, Nat.reduceMul, Nat.reduceSub, Nat.reduceBEq, Int.reduceToNat, Int.reduceLT, Int.reduceLE, Int.reduceEq, Int.reduceNe, Int.reduceBEq, Int.reduceBNe, Int.reduceAdd, Int.reduceSub, Int.natCast_nonneg, Bool.false_eq_true, Bool.true_eq_false, eq_self]
  intro g
  generalize hN1 : t.l.length = N at hl
  refine AC.weak (Weak.stF (fun o => o == 1) (l := [(1, .view .new (encTree .old .old t))]) (m := []) (by simp -implicitDefEqProofs only [go_sem, ↓reduceIte, Nat.reduceEqDiff, Nat.reduceLT, Nat.reduceLeDiff, Nat.reduceAdd, Nat.reduceMul, Nat.reduceSub, Nat.reduceBEq, Int.reduceToNat, Int.reduceLT, Int.reduceLE, Int.reduceEq, Int.reduceNe, Int.reduceBEq, Int.reduceBNe, Int.reduceAdd, Int.reduceSub, Int.natCast_nonneg, Bool.false_eq_true, Bool.true_eq_false, eq_self]; exact Fz.ptr rfl rfl) trivial) (AC.k [(1, .ptr true true 1 (fun _ => shNdsN N M))] (by simp -implicitDefEqProofs only [go_sem, ↓reduceIte, Nat.reduceEqDiff, Nat.reduceLT, Nat.reduceLeDiff, Nat.reduceAdd, Nat.reduceMul, Nat.reduceSub, Nat.reduceBEq, Int.reduceToNat, Int.reduceLT, Int.reduceLE, Int.reduceEq, Int.reduceNe, Int.reduceBEq, Int.reduceBNe, Int.reduceAdd, Int.reduceSub, Int.natCast_nonneg, Bool.false_eq_true, Bool.true_eq_false, eq_self]; exact shBox_enc hN1 hk) ?_)
  clear h0 hk hN1
  -- i := 0
  refine AK.pre 0 ?_
  rintro w _ ⟨v0, _, rfl, h0, rfl⟩
  refine AW.region (by kernel_rfl) ?_
  simp -implicitDefEqProofs only [go_sem, ↓reduceIte, Nat.reduceEqDiff, Nat.reduceLT, Nat.reduceLeDiff, Nat.reduceAdd, Nat.reduceMul, Nat.reduceSub, Nat.reduceBEq, Int.reduceToNat, Int.reduceLT, Int.reduceLE, Int.reduceEq, Int.reduceNe, Int.reduceBEq, Int.reduceBNe, Int.reduceAdd, Int.reduceSub, Int.natCast_nonneg, Bool.false_eq_true, Bool.true_eq_false, eq_self]
  refine AC.k [(1, .ptr true true 1 (fun _ => shNdsN N M)), (2, .lit .i64 0)] (by simp -implicitDefEqProofs only [go_sem, ↓reduceIte, Nat.reduceEqDiff, Nat.reduceLT, Nat.reduceLeDiff, Nat.reduceAdd, Nat.reduceMul, Nat.reduceSub, Nat.reduceBEq, Int.reduceToNat, Int.reduceLT, Int.reduceLE, Int.reduceEq, Int.reduceNe, Int.reduceBEq, Int.reduceBNe, Int.reduceAdd, Int.reduceSub, Int.natCast_nonneg, Bool.false_eq_true, Bool.true_eq_false, eq_self]; exact h0) ?_
  refine AK.block ?_
  refine AK.for N (fun k => [(1, .ptr true true 1 (fun _ => shNdsN N M)), (2, .lit .i64 k)]) 0 (Nat.zero_le _) fun k hk => ?_
  refine AK.pre 0 ?_
  rintro w _ ⟨v0, _, rfl, h0, _, _, rfl, rfl, rfl⟩
  obtain ⟨t, rfl, hl1, hkk⟩ := shBox_inv h0
  refine AW.seq_k fun K hK => AW.region (by kernel_rfl) ?_
  simp -implicitDefEqProofs only [go_sem, ↓reduceIte, Nat.reduceEqDiff, Nat.reduceLT, Nat.reduceLeDiff, Nat.reduceAdd, Nat.reduceMul, Nat.reduceSub, Nat.reduceBEq, Int.reduceToNat, Int.reduceLT, Int.reduceLE, Int.reduceEq, Int.reduceNe, Int.reduceBEq, Int.reduceBNe, Int.reduceAdd, Int.reduceSub, Int.natCast_nonneg, Bool.false_eq_true, Bool.true_eq_false, eq_self]
  refine hK _ ?_
  clear hK K
  refine AW.condS (by simp -implicitDefEqProofs only [go_sem, ↓reduceIte, Nat.reduceEqDiff, Nat.reduceLT, Nat.reduceLeDiff, Nat.reduceAdd, Nat.reduceMul, Nat.reduceSub, Nat.reduceBEq, Int.reduceToNat, Int.reduceLT, Int.reduceLE, Int.reduceEq, Int.reduceNe, Int.reduceBEq, Int.reduceBNe, Int.reduceAdd, Int.reduceSub, Int.natCast_nonneg, Bool.false_eq_true, Bool.true_eq_false, eq_self]; rfl) (fun h1 => ?_) (fun h1 => ?_)
  · refine AW.skip ?_
    simp -implicitDefEqProofs only [go_sem, ↓reduceIte, Nat.reduceEqDiff, Nat.reduceLT, Nat.reduceLeDiff, Nat.reduceAdd, Nat.reduceMul, Nat.reduceSub, Nat.reduceBEq, Int.reduceToNat, Int.reduceLT, Int.reduceLE, Int.reduceEq, Int.reduceNe, Int.reduceBEq, Int.reduceBNe, Int.reduceAdd, Int.reduceSub, Int.natCast_nonneg, Bool.false_eq_true, Bool.true_eq_false, eq_self]
    have hkN : k < N := by have := of_decide_eq_true h1; omega
    refine AC.k [(1, .ptr true true 1 (fun _ => shNdsN N M)), (2, .lit .i64 k)] (by simp -implicitDefEqProofs only [go_sem, ↓reduceIte, Nat.reduceEqDiff, Nat.reduceLT, Nat.reduceLeDiff, Nat.reduceAdd, Nat.reduceMul, Nat.reduceSub, Nat.reduceBEq, Int.reduceToNat, Int.reduceLT, Int.reduceLE, Int.reduceEq, Int.reduceNe, Int.reduceBEq, Int.reduceBNe, Int.reduceAdd, Int.reduceSub, Int.natCast_nonneg, Bool.false_eq_true, Bool.true_eq_false, eq_self]; exact h0) ?_
    refine AK.seqK [(1, .ptr true true 1 (fun _ => shNdsN N M)), (2, .lit .i64 k)] (AK.block ?_) ?_
    · refine AK.seqK [(1, .ptr true true 1 (fun _ => shNdsN N M)), (2, .lit .i64 k)] ?_ ?_
      · -- the parts
        refine AK.pre 0 ?_
        rintro w _ ⟨v0, _, rfl, h0, _, _, rfl, rfl, rfl⟩
        refine AW.region (by kernel_rfl) ?_
        simp -implicitDefEqProofs only [go_sem, ↓reduceIte, Nat.reduceEqDiff, Nat.reduceLT, Nat.reduceLeDiff, Nat.reduceAdd, Nat.reduceMul, Nat.reduceSub, Nat.reduceBEq, Int.reduceToNat, Int.reduceLT, Int.reduceLE, Int.reduceEq, Int.reduceNe, Int.reduceBEq, Int.reduceBNe, Int.reduceAdd, Int.reduceSub, Int.natCast_nonneg, Bool.false_eq_true, Bool.true_eq_false, eq_self]
        refine AC.k [(1, .ptr true true 1 (fun _ => shNdsN N M)), (2, .lit .i64 k), (3, .lit .i64 0)] (by simp -implicitDefEqProofs only [go_sem, ↓reduceIte, Nat.reduceEqDiff, Nat.reduceLT, Nat.reduceLeDiff, Nat.reduceAdd, Nat.reduceMul, Nat.reduceSub, Nat.reduceBEq, Int.reduceToNat, Int.reduceLT, Int.reduceLE, Int.reduceEq, Int.reduceNe, Int.reduceBEq, Int.reduceBNe, Int.reduceAdd, Int.reduceSub, Int.natCast_nonneg, Bool.false_eq_true, Bool.true_eq_false, eq_self]; exact h0) ?_
        refine AK.block ?_
        refine AK.for M (fun j => [(1, .ptr true true 1 (fun _ => shNdsN N M)), (2, .lit .i64 k), (3, .lit .i64 j)]) 0 (Nat.zero_le _) fun j hj => ?_
        refine AK.pre 0 ?_
        rintro w _ ⟨v0, _, rfl, h0, _, _, rfl, rfl, _, _, rfl, rfl, rfl⟩
        obtain ⟨t, rfl, hl1, hkk⟩ := shBox_inv h0
        have hk1 : k < t.l.length := by omega
        have hgt := List.getElem?_eq_getElem hk1
        have hgm := hkk _ (List.getElem_mem hk1)
        generalize t.l[k] = nd at hgt hgm
        refine AW.seq_k fun K hK => AW.region (by kernel_rfl) ?_
        simp -implicitDefEqProofs only [go_sem, ↓reduceIte, Nat.reduceEqDiff, Nat.reduceLT, Nat.reduceLeDiff, Nat.reduceAdd, Nat.reduceMul, Nat.reduceSub, Nat.reduceBEq, Int.reduceToNat, Int.reduceLT, Int.reduceLE, Int.reduceEq, Int.reduceNe, Int.reduceBEq, Int.reduceBNe, Int.reduceAdd, Int.reduceSub, Int.natCast_nonneg, Bool.false_eq_true, Bool.true_eq_false, eq_self, hgt]
        refine hK _ ?_
        clear hK K
        refine AW.condS (by simp -implicitDefEqProofs only [go_sem, ↓reduceIte, Nat.reduceEqDiff, Nat.reduceLT, Nat.reduceLeDiff, Nat.reduceAdd, Nat.reduceMul, Nat.reduceSub, Nat.reduceBEq, Int.reduceToNat, Int.reduceLT, Int.reduceLE, Int.reduceEq, Int.reduceNe, Int.reduceBEq, Int.reduceBNe, Int.reduceAdd, Int.reduceSub, Int.natCast_nonneg, Bool.false_eq_true, Bool.true_eq_false, eq_self]; rfl) (fun h2 => ?_) (fun h2 => ?_)
        · refine AW.skip ?_
          simp -implicitDefEqProofs only [go_sem, ↓reduceIte, Nat.reduceEqDiff, Nat.reduceLT, Nat.reduceLeDiff, Nat.reduceAdd, Nat.reduceMul, Nat.reduceSub, Nat.reduceBEq, Int.reduceToNat, Int.reduceLT, Int.reduceLE, Int.reduceEq, Int.reduceNe, Int.reduceBEq, Int.reduceBNe, Int.reduceAdd, Int.reduceSub, Int.natCast_nonneg, Bool.false_eq_true, Bool.true_eq_false, eq_self]
          have hj1 : j < nd.kids.l.length := by simpa using h2
          have hgj := List.getElem?_eq_getElem hj1
          refine AC.seqK [(1, .ptr true true 1 (fun _ => shNdsN N M)), (2, .lit .i64 k), (3, .lit .i64 j)] (AC.block (AC.store [(1, .ptr true true 1 (fun _ => shNdsN N M)), (2, .lit .i64 k), (3, .lit .i64 j)] (freeT_L _ (by simp)) (by kernel_rfl) (by kernel_rfl) rfl ?_ fun a w h1 h2 => ⟨h1, h2⟩)) ?_
          · simp -implicitDefEqProofs only [List.dropLast]
            simp -implicitDefEqProofs only [go_sem, ↓reduceIte, Nat.reduceEqDiff, Nat.reduceLT, Nat.reduceLeDiff, Nat.reduceAdd, Nat.reduceMul, Nat.reduceSub, Nat.reduceBEq, Int.reduceToNat, Int.reduceLT, Int.reduceLE, Int.reduceEq, Int.reduceNe, Int.reduceBEq, Int.reduceBNe, Int.reduceAdd, Int.reduceSub, Int.natCast_nonneg, Bool.false_eq_true, Bool.true_eq_false, eq_self, hgt, hgj]
            exact ⟨⟨_, rfl, rfl, by kernel_rfl, ⟨rfl, trivial⟩, by decide⟩, h0⟩
          · refine AK.all 0 ?_
            rintro w _ ⟨v0, _, rfl, h0, _, _, rfl, rfl, _, _, rfl, rfl, rfl⟩
            refine AW.region (by kernel_rfl) ?_
            simp -implicitDefEqProofs only [go_sem, ↓reduceIte, Nat.reduceEqDiff, Nat.reduceLT, Nat.reduceLeDiff, Nat.reduceAdd, Nat.reduceMul, Nat.reduceSub, Nat.reduceBEq, Int.reduceToNat, Int.reduceLT, Int.reduceLE, Int.reduceEq, Int.reduceNe, Int.reduceBEq, Int.reduceBNe, Int.reduceAdd, Int.reduceSub, Int.natCast_nonneg, Bool.false_eq_true, Bool.true_eq_false, eq_self]
            refine leave.k [(1, .ptr true true 1 (fun _ => shNdsN N M)), (2, .lit .i64 k), (3, .lit .i64 (j + 1 : Nat))] (by simp -implicitDefEqProofs only [go_sem, ↓reduceIte, Nat.reduceEqDiff, Nat.reduceLT, Nat.reduceLeDiff, Nat.reduceAdd, Nat.reduceMul, Nat.reduceSub, Nat.reduceBEq, Int.reduceToNat, Int.reduceLT, Int.reduceLE, Int.reduceEq, Int.reduceNe, Int.reduceBEq, Int.reduceBNe, Int.reduceAdd, Int.reduceSub, Int.natCast_nonneg, Bool.false_eq_true, Bool.true_eq_false, eq_self]; exact ⟨h0, w64 (by omega) (by omega)⟩) fun a w h1 h2 => ⟨by omega, h1, h2⟩
        · refine AW.exit ?_
          simp -implicitDefEqProofs only [go_sem, ↓reduceIte, Nat.reduceEqDiff, Nat.reduceLT, Nat.reduceLeDiff, Nat.reduceAdd, Nat.reduceMul, Nat.reduceSub, Nat.reduceBEq, Int.reduceToNat, Int.reduceLT, Int.reduceLE, Int.reduceEq, Int.reduceNe, Int.reduceBEq, Int.reduceBNe, Int.reduceAdd, Int.reduceSub, Int.natCast_nonneg, Bool.false_eq_true, Bool.true_eq_false, eq_self]
          refine leave.k [(1, .ptr true true 1 (fun _ => shNdsN N M)), (2, .lit .i64 k)] (by simp -implicitDefEqProofs only [go_sem, ↓reduceIte, Nat.reduceEqDiff, Nat.reduceLT, Nat.reduceLeDiff, Nat.reduceAdd, Nat.reduceMul, Nat.reduceSub, Nat.reduceBEq, Int.reduceToNat, Int.reduceLT, Int.reduceLE, Int.reduceEq, Int.reduceNe, Int.reduceBEq, Int.reduceBNe, Int.reduceAdd, Int.reduceSub, Int.natCast_nonneg, Bool.false_eq_true, Bool.true_eq_false, eq_self]; exact h0) fun a w h1 h2 => ⟨h1, h2⟩
      · -- the node
        refine AK.store 0 [(1, .ptr true true 1 (fun _ => shNdsN N M)), (2, .lit .i64 k)] (freeT_L _ (by simp)) (by kernel_rfl) (by kernel_rfl) rfl ?_ fun a w h1 h2 => ⟨h1, h2⟩
        rintro w _ ⟨v0, _, rfl, h0, _, _, rfl, rfl, rfl⟩
        obtain ⟨t, rfl, hl1, hkk⟩ := shBox_inv h0
        have hk1 : k < t.l.length := by omega
        have hgt := List.getElem?_eq_getElem hk1
        generalize t.l[k] = nd at hgt
        simp -implicitDefEqProofs only [List.dropLast]
        simp -implicitDefEqProofs only [go_sem, ↓reduceIte, Nat.reduceEqDiff, Nat.reduceLT, Nat.reduceLeDiff, Nat.reduceAdd, Nat.reduceMul, Nat.reduceSub, Nat.reduceBEq, Int.reduceToNat, Int.reduceLT, Int.reduceLE, Int.reduceEq, Int.reduceNe, Int.reduceBEq, Int.reduceBNe, Int.reduceAdd, Int.reduceSub, Int.natCast_nonneg, Bool.false_eq_true, Bool.true_eq_false, eq_self, hgt]
        exact ⟨⟨_, rfl, rfl, by kernel_rfl, by simp -implicitDefEqProofs only [go_sem, ↓reduceIte, Nat.reduceEqDiff, Nat.reduceLT, Nat.reduceLeDiff, Nat.reduceAdd, Nat.reduceMul, Nat.reduceSub, Nat.reduceBEq, Int.reduceToNat, Int.reduceLT, Int.reduceLE, Int.reduceEq, Int.reduceNe, Int.reduceBEq, Int.reduceBNe, Int.reduceAdd, Int.reduceSub, Int.natCast_nonneg, Bool.false_eq_true, Bool.true_eq_false, eq_self], by decide⟩, h0⟩
    · refine AK.all 0 ?_
      rintro w _ ⟨v0, _, rfl, h0, _, _, rfl, rfl, rfl⟩
      refine AW.region (by kernel_rfl) ?_
      simp -implicitDefEqProofs only [go_sem, ↓reduceIte, Nat.reduceEqDiff, Nat.reduceLT, Nat.reduceLeDiff, Nat.reduceAdd, Nat.reduceMul, Nat.reduceSub, Nat.reduceBEq, Int.reduceToNat, Int.reduceLT, Int.reduceLE, Int.reduceEq, Int.reduceNe, Int.reduceBEq, Int.reduceBNe, Int.reduceAdd, Int.reduceSub, Int.natCast_nonneg, Bool.false_eq_true, Bool.true_eq_false, eq_self]
      refine leave.k [(1, .ptr true true 1 (fun _ => shNdsN N M)), (2, .lit .i64 (k + 1 : Nat))] (by simp -implicitDefEqProofs only [go_sem, ↓reduceIte, Nat.reduceEqDiff, Nat.reduceLT, Nat.reduceLeDiff, Nat.reduceAdd, Nat.reduceMul, Nat.reduceSub, Nat.reduceBEq, Int.reduceToNat, Int.reduceLT, Int.reduceLE, Int.reduceEq, Int.reduceNe, Int.reduceBEq, Int.reduceBNe, Int.reduceAdd, Int.reduceSub, Int.natCast_nonneg, Bool.false_eq_true, Bool.true_eq_false, eq_self]; exact ⟨h0, w64 (by omega) (by omega)⟩) fun a w h1 h2 => ⟨hkN, h1, h2⟩
  · refine AW.exit ?_
    simp -implicitDefEqProofs only [go_sem, ↓reduceIte, Nat.reduceEqDiff, Nat.reduceLT, Nat.reduceLeDiff, Nat.reduceAdd, Nat.reduceMul, Nat.reduceSub, Nat.reduceBEq, Int.reduceToNat, Int.reduceLT, Int.reduceLE, Int.reduceEq, Int.reduceNe, Int.reduceBEq, Int.reduceBNe, Int.reduceAdd, Int.reduceSub, Int.natCast_nonneg, Bool.false_eq_true, Bool.true_eq_false, eq_self]
    refine leave.k [] trivial fun a w h1 h2 => ⟨h1.df, h2⟩
end Go.Hs
end

section
namespace Go.Hs
open Go.Proofs
set_option maxRecDepth 10000
/- hopscotch/steps.Right$1 -/
theorem rightKid_spec (G : Nat → V) (hG : GOk G) (ca cb c1 c2 c3 : Col) (t : Sl Nd) (n m : Nd) (kid : Int) (h0 : 0 ≤ kid) (hm : t.l[kid.toNat]? = some m) :
    Spec Try.prog G 34 [.int .i64 kid, .view ca (encTree c1 c2 t), .view cb (encNd c3 n)] hNone (fun v _ => v = .bool (m.op == n.op)) := by
  refine Spec.of_code' 0 14 [.tmp 4] Try.func34 rfl rfl rfl rfl fun X => ?_
  refine AW.seq_k fun K hK => AW.region (by kernel_rfl) ?_
  simp -implicitDefEqProofs only [go_sem, ↓reduceIte, Nat.reduceEqDiff, Nat.reduceLT, Nat.reduceLeDiff, Nat.reduceAdd, Nat.reduceMul, Nat.reduceSub, Nat.reduceBEq, Int.reduceToNat, Int.reduceLT, Int.reduceLE, Int.reduceEq, Int.reduceNe, Int.reduceBEq, Int.reduceBNe, Int.reduceAdd, Int.reduceSub, Int.natCast_nonneg, Bool.false_eq_true, Bool.true_eq_false, eq_self]
  refine hK _ ?_
  clear hK K
  obtain ⟨q, rfl⟩ : ∃ q : Nat, kid = q := ⟨kid.toNat, by omega⟩
  have hm : t.l[q]? = some m := hm
  refine AW.seq_k fun K hK => AW.regionT ⟨fun _ => .top, fun _ => .pure⟩ (by kernel_rfl) hG (by kernel_rfl) (by kernel_rfl) ?_
  simp -implicitDefEqProofs only [go_sem, ↓reduceIte, Nat.reduceEqDiff, Nat.reduceLT, Nat.reduceLeDiff, Nat.reduceAdd, Nat.reduceMul, Nat.reduceSub, Nat.reduceBEq, Int.reduceToNat, Int.reduceLT, Int.reduceLE, Int.reduceEq, Int.reduceNe, Int.reduceBEq, Int.reduceBNe, Int.reduceAdd, Int.reduceSub, Int.natCast_nonneg, Bool.false_eq_true, Bool.true_eq_false, eq_self, hm]
  refine hK _ ?_
  clear hK K
  refine AW.ret ?_
  simp -implicitDefEqProofs only [go_sem, ↓reduceIte, Nat.reduceEqDiff, Nat.reduceLT, Nat.reduceLeDiff, Nat.reduceAdd, Nat.reduceMul, Nat.reduceSub, Nat.reduceBEq, Int.reduceToNat, Int.reduceLT, Int.reduceLE, Int.reduceEq, Int.reduceNe, Int.reduceBEq, Int.reduceBNe, Int.reduceAdd, Int.reduceSub, Int.natCast_nonneg, Bool.false_eq_true, Bool.true_eq_false, eq_self]
  refine endK_some ?_
  rfl
end Go.Hs
end

section
namespace Go.Hs
open Go.Proofs
set_option maxRecDepth 10000

/- slices.IndexFunc -/
theorem fIIndex_spec (G : Nat → V) (hG : GOk G) (c : Col) (a : Sl Int) (ha : a.l.length < 1000000000) (fid : FuncId) (cap : List V) (hen : enterable Try.prog fid = true) (p : Int → Bool) (hcap : cap.map (V.recol Col.ent) = cap)
    (hf : ∀ x ∈ a.l, Spec Try.prog G fid (V.int .i64 x :: cap) hNone (fun v _ => v = .bool (p x))) :
    Spec Try.prog G 42 [encSl c 1 (V.int .i64) a, .func (.func fid) [] cap] hNone (fun v _ => ∃ i, v = .int .i64 i ∧ decide (i ≥ 0) = a.l.any p) := by
  refine Spec.of_code' 0 19 [.tmp 4] Try.func42 rfl rfl rfl rfl fun X => ?_
  refine AW.seq_k fun K hK => AW.region (by kernel_rfl) ?_
  simp -implicitDefEqProofs only [go_sem, ↓reduceIte, Nat.reduceEqDiff, Nat.reduceLT, Nat.reduceLeDiff, Nat.reduceAdd, Nat.reduceMul, Nat.reduceSub, Nat.reduceBEq, Int.reduceToNat, Int.reduceLT, Int.reduceLE, Int.reduceEq, Int.reduceNe, Int.reduceBEq, Int.reduceBNe, Int.reduceAdd, Int.reduceSub, Int.natCast_nonneg, Bool.false_eq_true, Bool.true_eq_false, eq_self]
  refine hK _ ?_
  clear hK K
  refine AW.seq_k fun K1 hK1 => ?_
  refine AW.seq_k fun K hK => AW.region (by kernel_rfl) ?_
  simp -implicitDefEqProofs only [go_sem, ↓reduceIte, Nat.reduceEqDiff, Nat.reduceLT, Nat.reduceLeDiff, Nat.reduceAdd, Nat.reduceMul, Nat.reduceSub, Nat.reduceBEq, Int.reduceToNat, Int.reduceLT, Int.reduceLE, Int.reduceEq, Int.reduceNe, Int.reduceBEq, Int.reduceBNe, Int.reduceAdd, Int.reduceSub, Int.natCast_nonneg, Bool.false_eq_true, Bool.true_eq_false, eq_self]
  refine hK _ ?_
  clear hK K
  refine AW.block ?_
  refine AW.for a.l.length (fun k (_ : Unit) => st [(0, encSl c 1 (V.int .i64) a), (1, .func (.func fid) [] cap), (7, .int .i64 a.l.length), (8, .int .i64 k)] []) (fun k _ => (a.l.take k).any p = false) 0 () (Nat.zero_le _) (by simp)
    (Weak.st (by simp -implicitDefEqProofs only [go_sem, ↓reduceIte, Nat.reduceEqDiff, Nat.reduceLT, Nat.reduceLeDiff, Nat.reduceAdd, Nat.reduceMul, Nat.reduceSub, Nat.reduceBEq, Int.reduceToNat, Int.reduceLT, Int.reduceLE, Int.reduceEq, Int.reduceNe, Int.reduceBEq, Int.reduceBNe, Int.reduceAdd, Int.reduceSub, Int.natCast_nonneg, Bool.false_eq_true, Bool.true_eq_false, eq_self]; simp) (by simp -implicitDefEqProofs only [go_sem, ↓reduceIte, Nat.reduceEqDiff, Nat.reduceLT, Nat.reduceLeDiff, Nat.reduceAdd, Nat.reduceMul, Nat.reduceSub, Nat.reduceBEq, Int.reduceToNat, Int.reduceLT, Int.reduceLE, Int.reduceEq, Int.reduceNe, Int.reduceBEq, Int.reduceBNe, Int.reduceAdd, Int.reduceSub, Int.natCast_nonneg, Bool.false_eq_true, Bool.true_eq_false, eq_self])) ?_
  intro k _ hk hR L2 hL2
  refine AW.seq_k fun K hK => AW.region (by kernel_rfl) ?_
  simp -implicitDefEqProofs only [go_sem, ↓reduceIte, Nat.reduceEqDiff, Nat.reduceLT, Nat.reduceLeDiff, Nat.reduceAdd, Nat.reduceMul, Nat.reduceSub, Nat.reduceBEq, Int.reduceToNat, Int.reduceLT, Int.reduceLE, Int.reduceEq, Int.reduceNe, Int.reduceBEq, Int.reduceBNe, Int.reduceAdd, Int.reduceSub, Int.natCast_nonneg, Bool.false_eq_true, Bool.true_eq_false, eq_self]
  refine hK _ ?_
  clear hK K
  refine AW.seq_k fun K3 hK3 => ?_
  refine AW.condS (by simp -implicitDefEqProofs only [go_sem, ↓reduceIte, Nat.reduceEqDiff, Nat.reduceLT, Nat.reduceLeDiff, Nat.reduceAdd, Nat.reduceMul, Nat.reduceSub, Nat.reduceBEq, Int.reduceToNat, Int.reduceLT, Int.reduceLE, Int.reduceEq, Int.reduceNe, Int.reduceBEq, Int.reduceBNe, Int.reduceAdd, Int.reduceSub, Int.natCast_nonneg, Bool.false_eq_true, Bool.true_eq_false, eq_self]; rfl) (fun h4 => ?_) (fun h4 => ?_)
  · -- true
    refine AW.skip ?_
    simp -implicitDefEqProofs only [go_sem, ↓reduceIte, Nat.reduceEqDiff, Nat.reduceLT, Nat.reduceLeDiff, Nat.reduceAdd, Nat.reduceMul, Nat.reduceSub, Nat.reduceBEq, Int.reduceToNat, Int.reduceLT, Int.reduceLE, Int.reduceEq, Int.reduceNe, Int.reduceBEq, Int.reduceBNe, Int.reduceAdd, Int.reduceSub, Int.natCast_nonneg, Bool.false_eq_true, Bool.true_eq_false, eq_self]
    refine hK3 _ ?_
    have hk1 : k < a.l.length := by simpa using h4
    have hgi := List.getElem?_eq_getElem hk1
    have hm := List.getElem_mem hk1
    generalize hx : a.l[k] = x at hgi hm
    refine AW.seq_k fun K5 hK5 => ?_
    refine AW.block ?_
    refine AW.seq_k fun K hK => AW.region (by kernel_rfl) ?_
    simp -implicitDefEqProofs only [go_sem, ↓reduceIte, Nat.reduceEqDiff, Nat.reduceLT, Nat.reduceLeDiff, Nat.reduceAdd, Nat.reduceMul, Nat.reduceSub, Nat.reduceBEq, Int.reduceToNat, Int.reduceLT, Int.reduceLE, Int.reduceEq, Int.reduceNe, Int.reduceBEq, Int.reduceBNe, Int.reduceAdd, Int.reduceSub, Int.natCast_nonneg, Bool.false_eq_true, Bool.true_eq_false, eq_self]
    refine hK _ ?_
    clear hK K
    refine AW.seq_k fun K hK => AW.region (by kernel_rfl) ?_
    simp -implicitDefEqProofs only [go_sem, ↓reduceIte, Nat.reduceEqDiff, Nat.reduceLT, Nat.reduceLeDiff, Nat.reduceAdd, Nat.reduceMul, Nat.reduceSub, Nat.reduceBEq, Int.reduceToNat, Int.reduceLT, Int.reduceLE, Int.reduceEq, Int.reduceNe, Int.reduceBEq, Int.reduceBNe, Int.reduceAdd, Int.reduceSub, Int.natCast_nonneg, Bool.false_eq_true, Bool.true_eq_false, eq_self, hgi]
    refine CallA.pure hG hen ?_
    simp -implicitDefEqProofs only [go_sem, ↓reduceIte, Nat.reduceEqDiff, Nat.reduceLT, Nat.reduceLeDiff, Nat.reduceAdd, Nat.reduceMul, Nat.reduceSub, Nat.reduceBEq, Int.reduceToNat, Int.reduceLT, Int.reduceLE, Int.reduceEq, Int.reduceNe, Int.reduceBEq, Int.reduceBNe, Int.reduceAdd, Int.reduceSub, Int.natCast_nonneg, Bool.false_eq_true, Bool.true_eq_false, eq_self, List.cons_append, List.nil_append, hcap, List.map_cons]
    refine (hf x hm).mono ?_
    rintro _ _ rfl
    simp -implicitDefEqProofs only [go_sem, ↓reduceIte, Nat.reduceEqDiff, Nat.reduceLT, Nat.reduceLeDiff, Nat.reduceAdd, Nat.reduceMul, Nat.reduceSub, Nat.reduceBEq, Int.reduceToNat, Int.reduceLT, Int.reduceLE, Int.reduceEq, Int.reduceNe, Int.reduceBEq, Int.reduceBNe, Int.reduceAdd, Int.reduceSub, Int.natCast_nonneg, Bool.false_eq_true, Bool.true_eq_false, eq_self]
    refine hK _ ?_
    clear hK K
    refine AW.condS (by simp -implicitDefEqProofs only [go_sem, ↓reduceIte, Nat.reduceEqDiff, Nat.reduceLT, Nat.reduceLeDiff, Nat.reduceAdd, Nat.reduceMul, Nat.reduceSub, Nat.reduceBEq, Int.reduceToNat, Int.reduceLT, Int.reduceLE, Int.reduceEq, Int.reduceNe, Int.reduceBEq, Int.reduceBNe, Int.reduceAdd, Int.reduceSub, Int.natCast_nonneg, Bool.false_eq_true, Bool.true_eq_false, eq_self]; rfl) (fun h6 => ?_) (fun h6 => ?_)
    · -- true
      refine AW.seq_k fun K hK => AW.region (by kernel_rfl) ?_
      simp -implicitDefEqProofs only [go_sem, ↓reduceIte, Nat.reduceEqDiff, Nat.reduceLT, Nat.reduceLeDiff, Nat.reduceAdd, Nat.reduceMul, Nat.reduceSub, Nat.reduceBEq, Int.reduceToNat, Int.reduceLT, Int.reduceLE, Int.reduceEq, Int.reduceNe, Int.reduceBEq, Int.reduceBNe, Int.reduceAdd, Int.reduceSub, Int.natCast_nonneg, Bool.false_eq_true, Bool.true_eq_false, eq_self]
      refine hK _ ?_
      clear hK K
      refine AW.ret ?_
      simp -implicitDefEqProofs only [go_sem, ↓reduceIte, Nat.reduceEqDiff, Nat.reduceLT, Nat.reduceLeDiff, Nat.reduceAdd, Nat.reduceMul, Nat.reduceSub, Nat.reduceBEq, Int.reduceToNat, Int.reduceLT, Int.reduceLE, Int.reduceEq, Int.reduceNe, Int.reduceBEq, Int.reduceBNe, Int.reduceAdd, Int.reduceSub, Int.natCast_nonneg, Bool.false_eq_true, Bool.true_eq_false, eq_self]
      refine endK_some ?_
      refine ⟨_, rfl, ?_⟩
      have h1 : a.l.any p = true := List.any_eq_true.2 ⟨x, hm, h6⟩
      rw [h1]
      simp
    · -- false
      refine AW.skip ?_
      simp -implicitDefEqProofs only [go_sem, ↓reduceIte, Nat.reduceEqDiff, Nat.reduceLT, Nat.reduceLeDiff, Nat.reduceAdd, Nat.reduceMul, Nat.reduceSub, Nat.reduceBEq, Int.reduceToNat, Int.reduceLT, Int.reduceLE, Int.reduceEq, Int.reduceNe, Int.reduceBEq, Int.reduceBNe, Int.reduceAdd, Int.reduceSub, Int.natCast_nonneg, Bool.false_eq_true, Bool.true_eq_false, eq_self]
      refine hK5 _ ?_
      refine AW.region (by kernel_rfl) ?_
      simp -implicitDefEqProofs only [go_sem, ↓reduceIte, Nat.reduceEqDiff, Nat.reduceLT, Nat.reduceLeDiff, Nat.reduceAdd, Nat.reduceMul, Nat.reduceSub, Nat.reduceBEq, Int.reduceToNat, Int.reduceLT, Int.reduceLE, Int.reduceEq, Int.reduceNe, Int.reduceBEq, Int.reduceBNe, Int.reduceAdd, Int.reduceSub, Int.natCast_nonneg, Bool.false_eq_true, Bool.true_eq_false, eq_self]
      refine hL2 _ ⟨hk1, (), ?_, Weak.st (by simp -implicitDefEqProofs only [go_sem, ↓reduceIte, Nat.reduceEqDiff, Nat.reduceLT, Nat.reduceLeDiff, Nat.reduceAdd, Nat.reduceMul, Nat.reduceSub, Nat.reduceBEq, Int.reduceToNat, Int.reduceLT, Int.reduceLE, Int.reduceEq, Int.reduceNe, Int.reduceBEq, Int.reduceBNe, Int.reduceAdd, Int.reduceSub, Int.natCast_nonneg, Bool.false_eq_true, Bool.true_eq_false, eq_self]; exact congrArg _ (w64 (by omega) (by omega))) (by simp -implicitDefEqProofs only [go_sem, ↓reduceIte, Nat.reduceEqDiff, Nat.reduceLT, Nat.reduceLeDiff, Nat.reduceAdd, Nat.reduceMul, Nat.reduceSub, Nat.reduceBEq, Int.reduceToNat, Int.reduceLT, Int.reduceLE, Int.reduceEq, Int.reduceNe, Int.reduceBEq, Int.reduceBNe, Int.reduceAdd, Int.reduceSub, Int.natCast_nonneg, Bool.false_eq_true, Bool.true_eq_false, eq_self])⟩
      rw [List.take_succ_eq_append_getElem hk1, List.any_append, hR, hx]
      simp [h6]
  · -- false
    refine AW.exit ?_
    simp -implicitDefEqProofs only [go_sem, ↓reduceIte, Nat.reduceEqDiff, Nat.reduceLT, Nat.reduceLeDiff, Nat.reduceAdd, Nat.reduceMul, Nat.reduceSub, Nat.reduceBEq, Int.reduceToNat, Int.reduceLT, Int.reduceLE, Int.reduceEq, Int.reduceNe, Int.reduceBEq, Int.reduceBNe, Int.reduceAdd, Int.reduceSub, Int.natCast_nonneg, Bool.false_eq_true, Bool.true_eq_false, eq_self]
    refine hK1 _ ?_
    have hk1 : k = a.l.length := by simp at h4; omega
    refine AW.seq_k fun K hK => AW.region (by kernel_rfl) ?_
    simp -implicitDefEqProofs only [go_sem, ↓reduceIte, Nat.reduceEqDiff, Nat.reduceLT, Nat.reduceLeDiff, Nat.reduceAdd, Nat.reduceMul, Nat.reduceSub, Nat.reduceBEq, Int.reduceToNat, Int.reduceLT, Int.reduceLE, Int.reduceEq, Int.reduceNe, Int.reduceBEq, Int.reduceBNe, Int.reduceAdd, Int.reduceSub, Int.natCast_nonneg, Bool.false_eq_true, Bool.true_eq_false, eq_self]
    refine hK _ ?_
    clear hK K
    refine AW.ret ?_
    simp -implicitDefEqProofs only [go_sem, ↓reduceIte, Nat.reduceEqDiff, Nat.reduceLT, Nat.reduceLeDiff, Nat.reduceAdd, Nat.reduceMul, Nat.reduceSub, Nat.reduceBEq, Int.reduceToNat, Int.reduceLT, Int.reduceLE, Int.reduceEq, Int.reduceNe, Int.reduceBEq, Int.reduceBNe, Int.reduceAdd, Int.reduceSub, Int.natCast_nonneg, Bool.false_eq_true, Bool.true_eq_false, eq_self]
    refine endK_some ?_
    refine ⟨_, rfl, ?_⟩
    rw [hk1, List.take_length] at hR
    rw [hR]
    rfl
/- slices.ContainsFunc -/
theorem fIContains_spec (G : Nat → V) (hG : GOk G) (c : Col) (a : Sl Int) (ha : a.l.length < 1000000000) (fid : FuncId) (cap : List V) (hen : enterable Try.prog fid = true) (p : Int → Bool) (hcap : cap.map (V.recol Col.ent) = cap)
    (hf : ∀ x ∈ a.l, Spec Try.prog G fid (V.int .i64 x :: cap) hNone (fun v _ => v = .bool (p x))) :
    Spec Try.prog G 33 [encSl c 1 (V.int .i64) a, .func (.func fid) [] cap] hNone (fun v _ => v = .bool (a.l.any p)) := by
  refine Spec.of_code' 0 9 [.tmp 4] Try.func33 rfl rfl rfl rfl fun X => ?_
  refine AW.seq_k fun K hK => AW.region (by kernel_rfl) ?_
  simp -implicitDefEqProofs only [go_sem, ↓reduceIte, Nat.reduceEqDiff, Nat.reduceLT, Nat.reduceLeDiff, Nat.reduceAdd, Nat.reduceMul, Nat.reduceSub, Nat.reduceBEq, Int.reduceToNat, Int.reduceLT, Int.reduceLE, Int.reduceEq, Int.reduceNe, Int.reduceBEq, Int.reduceBNe, Int.reduceAdd, Int.reduceSub, Int.natCast_nonneg, Bool.false_eq_true, Bool.true_eq_false, eq_self]
  refine hK _ ?_
  clear hK K
  refine AW.seq_k fun K hK => AW.region (by kernel_rfl) ?_
  simp -implicitDefEqProofs only [go_sem, ↓reduceIte, Nat.reduceEqDiff, Nat.reduceLT, Nat.reduceLeDiff, Nat.reduceAdd, Nat.reduceMul, Nat.reduceSub, Nat.reduceBEq, Int.reduceToNat, Int.reduceLT, Int.reduceLE, Int.reduceEq, Int.reduceNe, Int.reduceBEq, Int.reduceBNe, Int.reduceAdd, Int.reduceSub, Int.natCast_nonneg, Bool.false_eq_true, Bool.true_eq_false, eq_self]
  refine CallA.pure hG (by kernel_rfl) ?_
  simp -implicitDefEqProofs only [go_sem, ↓reduceIte, Nat.reduceEqDiff, Nat.reduceLT, Nat.reduceLeDiff, Nat.reduceAdd, Nat.reduceMul, Nat.reduceSub, Nat.reduceBEq, Int.reduceToNat, Int.reduceLT, Int.reduceLE, Int.reduceEq, Int.reduceNe, Int.reduceBEq, Int.reduceBNe, Int.reduceAdd, Int.reduceSub, Int.natCast_nonneg, Bool.false_eq_true, Bool.true_eq_false, eq_self, List.map_cons, List.map_nil, V.recol, V.recolL_eq, hcap]
  refine (fIIndex_spec G hG _ a ha fid cap hen p hcap hf).mono ?_
  rintro _ _ ⟨i, rfl, hi⟩
  simp -implicitDefEqProofs only [go_sem, ↓reduceIte, Nat.reduceEqDiff, Nat.reduceLT, Nat.reduceLeDiff, Nat.reduceAdd, Nat.reduceMul, Nat.reduceSub, Nat.reduceBEq, Int.reduceToNat, Int.reduceLT, Int.reduceLE, Int.reduceEq, Int.reduceNe, Int.reduceBEq, Int.reduceBNe, Int.reduceAdd, Int.reduceSub, Int.natCast_nonneg, Bool.false_eq_true, Bool.true_eq_false, eq_self]
  refine hK _ ?_
  clear hK K
  refine AW.ret ?_
  simp -implicitDefEqProofs only [go_sem, ↓reduceIte, Nat.reduceEqDiff, Nat.reduceLT, Nat.reduceLeDiff, Nat.reduceAdd, Nat.reduceMul, Nat.reduceSub, Nat.reduceBEq, Int.reduceToNat, Int.reduceLT, Int.reduceLE, Int.reduceEq, Int.reduceNe, Int.reduceBEq, Int.reduceBNe, Int.reduceAdd, Int.reduceSub, Int.natCast_nonneg, Bool.false_eq_true, Bool.true_eq_false, eq_self]
  refine endK_some ?_
  rw [hi]

/- slices.IndexFunc -/
theorem fTIndex_spec (G : Nat → V) (hG : GOk G) (c : Col) (c1 c2 : Col) (a : Sl (Sl Nd)) (ha : a.l.length < 1000000000) (fid : FuncId) (cap : List V) (hen : enterable Try.prog fid = true) (p : (Sl Nd) → Bool) (hcap : cap.map (V.recol Col.ent) = cap)
    (hf : ∀ c1 c2, ∀ x ∈ a.l, Spec Try.prog G fid (encTree c1 c2 x :: cap) hNone (fun v _ => v = .bool (p x))) :
    Spec Try.prog G 45 [encSl c 1 (encTree c1 c2) a, .func (.func fid) [] cap] hNone (fun v _ => ∃ i, v = .int .i64 i ∧ decide (i ≥ 0) = a.l.any p) := by
  refine Spec.of_code' 0 19 [.tmp 4] Try.func45 rfl rfl rfl rfl fun X => ?_
  refine AW.seq_k fun K hK => AW.region (by kernel_rfl) ?_
  simp -implicitDefEqProofs only [go_sem, ↓reduceIte, Nat.reduceEqDiff, Nat.reduceLT, Nat.reduceLeDiff, Nat.reduceAdd, Nat.reduceMul, Nat.reduceSub, Nat.reduceBEq, Int.reduceToNat, Int.reduceLT, Int.reduceLE, Int.reduceEq, Int.reduceNe, Int.reduceBEq, Int.reduceBNe, Int.reduceAdd, Int.reduceSub, Int.natCast_nonneg, Bool.false_eq_true, Bool.true_eq_false, eq_self]
  refine hK _ ?_
  clear hK K
  refine AW.seq_k fun K1 hK1 => ?_
  refine AW.seq_k fun K hK => AW.region (by kernel_rfl) ?_
  simp -implicitDefEqProofs only [go_sem, ↓reduceIte, Nat.reduceEqDiff, Nat.reduceLT, Nat.reduceLeDiff, Nat.reduceAdd, Nat.reduceMul, Nat.reduceSub, Nat.reduceBEq, Int.reduceToNat, Int.reduceLT, Int.reduceLE, Int.reduceEq, Int.reduceNe, Int.reduceBEq, Int.reduceBNe, Int.reduceAdd, Int.reduceSub, Int.natCast_nonneg, Bool.false_eq_true, Bool.true_eq_false, eq_self]
  refine hK _ ?_
  clear hK K
  refine AW.block ?_
  refine AW.for a.l.length (fun k (_ : Unit) => st [(0, encSl c 1 (encTree c1 c2) a), (1, .func (.func fid) [] cap), (7, .int .i64 a.l.length), (8, .int .i64 k)] []) (fun k _ => (a.l.take k).any p = false) 0 () (Nat.zero_le _) (by simp)
    (Weak.st (by simp -implicitDefEqProofs only [go_sem, ↓reduceIte, Nat.reduceEqDiff, Nat.reduceLT, Nat.reduceLeDiff, Nat.reduceAdd, Nat.reduceMul, Nat.reduceSub, Nat.reduceBEq, Int.reduceToNat, Int.reduceLT, Int.reduceLE, Int.reduceEq, Int.reduceNe, Int.reduceBEq, Int.reduceBNe, Int.reduceAdd, Int.reduceSub, Int.natCast_nonneg, Bool.false_eq_true, Bool.true_eq_false, eq_self]; simp) (by simp -implicitDefEqProofs only [go_sem, ↓reduceIte, Nat.reduceEqDiff, Nat.reduceLT, Nat.reduceLeDiff, Nat.reduceAdd, Nat.reduceMul, Nat.reduceSub, Nat.reduceBEq, Int.reduceToNat, Int.reduceLT, Int.reduceLE, Int.reduceEq, Int.reduceNe, Int.reduceBEq, Int.reduceBNe, Int.reduceAdd, Int.reduceSub, Int.natCast_nonneg, Bool.false_eq_true, Bool.true_eq_false, eq_self])) ?_
  intro k _ hk hR L2 hL2
  refine AW.seq_k fun K hK => AW.region (by kernel_rfl) ?_
  simp -implicitDefEqProofs only [go_sem, ↓reduceIte, Nat.reduceEqDiff, Nat.reduceLT, Nat.reduceLeDiff, Nat.reduceAdd, Nat.reduceMul, Nat.reduceSub, Nat.reduceBEq, Int.reduceToNat, Int.reduceLT, Int.reduceLE, Int.reduceEq, Int.reduceNe, Int.reduceBEq, Int.reduceBNe, Int.reduceAdd, Int.reduceSub, Int.natCast_nonneg, Bool.false_eq_true, Bool.true_eq_false, eq_self]
  refine hK _ ?_
  clear hK K
  refine AW.seq_k fun K3 hK3 => ?_
  refine AW.condS (by simp -implicitDefEqProofs only [go_sem, ↓reduceIte, Nat.reduceEqDiff, Nat.reduceLT, Nat.reduceLeDiff, Nat.reduceAdd, Nat.reduceMul, Nat.reduceSub, Nat.reduceBEq, Int.reduceToNat, Int.reduceLT, Int.reduceLE, Int.reduceEq, Int.reduceNe, Int.reduceBEq, Int.reduceBNe, Int.reduceAdd, Int.reduceSub, Int.natCast_nonneg, Bool.false_eq_true, Bool.true_eq_false, eq_self]; rfl) (fun h4 => ?_) (fun h4 => ?_)
  · -- true
    refine AW.skip ?_
    simp -implicitDefEqProofs only [go_sem, ↓reduceIte, Nat.reduceEqDiff, Nat.reduceLT, Nat.reduceLeDiff, Nat.reduceAdd, Nat.reduceMul, Nat.reduceSub, Nat.reduceBEq, Int.reduceToNat, Int.reduceLT, Int.reduceLE, Int.reduceEq, Int.reduceNe, Int.reduceBEq, Int.reduceBNe, Int.reduceAdd, Int.reduceSub, Int.natCast_nonneg, Bool.false_eq_true, Bool.true_eq_false, eq_self]
    refine hK3 _ ?_
    have hk1 : k < a.l.length := by simpa using h4
    have hgi := List.getElem?_eq_getElem hk1
    have hm := List.getElem_mem hk1
    generalize hx : a.l[k] = x at hgi hm
    refine AW.seq_k fun K5 hK5 => ?_
    refine AW.block ?_
    refine AW.seq_k fun K hK => AW.region (by kernel_rfl) ?_
    simp -implicitDefEqProofs only [go_sem, ↓reduceIte, Nat.reduceEqDiff, Nat.reduceLT, Nat.reduceLeDiff, Nat.reduceAdd, Nat.reduceMul, Nat.reduceSub, Nat.reduceBEq, Int.reduceToNat, Int.reduceLT, Int.reduceLE, Int.reduceEq, Int.reduceNe, Int.reduceBEq, Int.reduceBNe, Int.reduceAdd, Int.reduceSub, Int.natCast_nonneg, Bool.false_eq_true, Bool.true_eq_false, eq_self]
    refine hK _ ?_
    clear hK K
    refine AW.seq_k fun K hK => AW.region (by kernel_rfl) ?_
    simp -implicitDefEqProofs only [go_sem, ↓reduceIte, Nat.reduceEqDiff, Nat.reduceLT, Nat.reduceLeDiff, Nat.reduceAdd, Nat.reduceMul, Nat.reduceSub, Nat.reduceBEq, Int.reduceToNat, Int.reduceLT, Int.reduceLE, Int.reduceEq, Int.reduceNe, Int.reduceBEq, Int.reduceBNe, Int.reduceAdd, Int.reduceSub, Int.natCast_nonneg, Bool.false_eq_true, Bool.true_eq_false, eq_self, hgi]
    refine CallA.pure hG hen ?_
    simp -implicitDefEqProofs only [go_sem, ↓reduceIte, Nat.reduceEqDiff, Nat.reduceLT, Nat.reduceLeDiff, Nat.reduceAdd, Nat.reduceMul, Nat.reduceSub, Nat.reduceBEq, Int.reduceToNat, Int.reduceLT, Int.reduceLE, Int.reduceEq, Int.reduceNe, Int.reduceBEq, Int.reduceBNe, Int.reduceAdd, Int.reduceSub, Int.natCast_nonneg, Bool.false_eq_true, Bool.true_eq_false, eq_self, List.cons_append, List.nil_append, hcap, List.map_cons]
    refine (hf _ _ x hm).mono ?_
    rintro _ _ rfl
    simp -implicitDefEqProofs only [go_sem, ↓reduceIte, Nat.reduceEqDiff, Nat.reduceLT, Nat.reduceLeDiff, Nat.reduceAdd, Nat.reduceMul, Nat.reduceSub, Nat.reduceBEq, Int.reduceToNat, Int.reduceLT, Int.reduceLE, Int.reduceEq, Int.reduceNe, Int.reduceBEq, Int.reduceBNe, Int.reduceAdd, Int.reduceSub, Int.natCast_nonneg, Bool.false_eq_true, Bool.true_eq_false, eq_self]
    refine hK _ ?_
    clear hK K
    refine AW.condS (by simp -implicitDefEqProofs only [go_sem, ↓reduceIte, Nat.reduceEqDiff, Nat.reduceLT, Nat.reduceLeDiff, Nat.reduceAdd, Nat.reduceMul, Nat.reduceSub, Nat.reduceBEq, Int.reduceToNat, Int.reduceLT, Int.reduceLE, Int.reduceEq, Int.reduceNe, Int.reduceBEq, Int.reduceBNe, Int.reduceAdd, Int.reduceSub, Int.natCast_nonneg, Bool.false_eq_true, Bool.true_eq_false, eq_self]; rfl) (fun h6 => ?_) (fun h6 => ?_)
    · -- true
      refine AW.seq_k fun K hK => AW.region (by kernel_rfl) ?_
      simp -implicitDefEqProofs only [go_sem, ↓reduceIte, Nat.reduceEqDiff, Nat.reduceLT, Nat.reduceLeDiff, Nat.reduceAdd, Nat.reduceMul, Nat.reduceSub, Nat.reduceBEq, Int.reduceToNat, Int.reduceLT, Int.reduceLE, Int.reduceEq, Int.reduceNe, Int.reduceBEq, Int.reduceBNe, Int.reduceAdd, Int.reduceSub, Int.natCast_nonneg, Bool.false_eq_true, Bool.true_eq_false, eq_self]
      refine hK _ ?_
      clear hK K
      refine AW.ret ?_
      simp -implicitDefEqProofs only [go_sem, ↓reduceIte, Nat.reduceEqDiff, Nat.reduceLT, Nat.reduceLeDiff, Nat.reduceAdd, Nat.reduceMul, Nat.reduceSub, Nat.reduceBEq, Int.reduceToNat, Int.reduceLT, Int.reduceLE, Int.reduceEq, Int.reduceNe, Int.reduceBEq, Int.reduceBNe, Int.reduceAdd, Int.reduceSub, Int.natCast_nonneg, Bool.false_eq_true, Bool.true_eq_false, eq_self]
      refine endK_some ?_
      refine ⟨_, rfl, ?_⟩
      have h1 : a.l.any p = true := List.any_eq_true.2 ⟨x, hm, h6⟩
      rw [h1]
      simp
    · -- false
      refine AW.skip ?_
      simp -implicitDefEqProofs only [go_sem, ↓reduceIte, Nat.reduceEqDiff, Nat.reduceLT, Nat.reduceLeDiff, Nat.reduceAdd, Nat.reduceMul, Nat.reduceSub, Nat.reduceBEq, Int.reduceToNat, Int.reduceLT, Int.reduceLE, Int.reduceEq, Int.reduceNe, Int.reduceBEq, Int.reduceBNe, Int.reduceAdd, Int.reduceSub, Int.natCast_nonneg, Bool.false_eq_true, Bool.true_eq_false, eq_self]
      refine hK5 _ ?_
      refine AW.region (by kernel_rfl) ?_
      simp -implicitDefEqProofs only [go_sem, ↓reduceIte, Nat.reduceEqDiff, Nat.reduceLT, Nat.reduceLeDiff, Nat.reduceAdd, Nat.reduceMul, Nat.reduceSub, Nat.reduceBEq, Int.reduceToNat, Int.reduceLT, Int.reduceLE, Int.reduceEq, Int.reduceNe, Int.reduceBEq, Int.reduceBNe, Int.reduceAdd, Int.reduceSub, Int.natCast_nonneg, Bool.false_eq_true, Bool.true_eq_false, eq_self]
      refine hL2 _ ⟨hk1, (), ?_, Weak.st (by simp -implicitDefEqProofs only [go_sem, ↓reduceIte, Nat.reduceEqDiff, Nat.reduceLT, Nat.reduceLeDiff, Nat.reduceAdd, Nat.reduceMul, Nat.reduceSub, Nat.reduceBEq, Int.reduceToNat, Int.reduceLT, Int.reduceLE, Int.reduceEq, Int.reduceNe, Int.reduceBEq, Int.reduceBNe, Int.reduceAdd, Int.reduceSub, Int.natCast_nonneg, Bool.false_eq_true, Bool.true_eq_false, eq_self]; exact congrArg _ (w64 (by omega) (by omega))) (by simp -implicitDefEqProofs only [go_sem, ↓reduceIte, Nat.reduceEqDiff, Nat.reduceLT, Nat.reduceLeDiff, Nat.reduceAdd, Nat.reduceMul, Nat.reduceSub, Nat.reduceBEq, Int.reduceToNat, Int.reduceLT, Int.reduceLE, Int.reduceEq, Int.reduceNe, Int.reduceBEq, Int.reduceBNe, Int.reduceAdd, Int.reduceSub, Int.natCast_nonneg, Bool.false_eq_true, Bool.true_eq_false, eq_self])⟩
      rw [List.take_succ_eq_append_getElem hk1, List.any_append, hR, hx]
      simp [h6]
  · -- false
    refine AW.exit ?_
    simp -implicitDefEqProofs only [go_sem, ↓reduceIte, Nat.reduceEqDiff, Nat.reduceLT, Nat.reduceLeDiff, Nat.reduceAdd, Nat.reduceMul, Nat.reduceSub, Nat.reduceBEq, Int.reduceToNat, Int.reduceLT, Int.reduceLE, Int.reduceEq, Int.reduceNe, Int.reduceBEq, Int.reduceBNe, Int.reduceAdd, Int.reduceSub, Int.natCast_nonneg, Bool.false_eq_true, Bool.true_eq_false, eq_self]
    refine hK1 _ ?_
    have hk1 : k = a.l.length := by simp at h4; omega
    refine AW.seq_k fun K hK => AW.region (by kernel_rfl) ?_
    simp -implicitDefEqProofs only [go_sem, ↓reduceIte, Nat.reduceEqDiff, Nat.reduceLT, Nat.reduceLeDiff, Nat.reduceAdd, Nat.reduceMul, Nat.reduceSub, Nat.reduceBEq, Int.reduceToNat, Int.reduceLT, Int.reduceLE, Int.reduceEq, Int.reduceNe, Int.reduceBEq, Int.reduceBNe, Int.reduceAdd, Int.reduceSub, Int.natCast_nonneg, Bool.false_eq_true, Bool.true_eq_false, eq_self]
    refine hK _ ?_
    clear hK K
    refine AW.ret ?_
    simp -implicitDefEqProofs only [go_sem, ↓reduceIte, Nat.reduceEqDiff, Nat.reduceLT, Nat.reduceLeDiff, Nat.reduceAdd, Nat.reduceMul, Nat.reduceSub, Nat.reduceBEq, Int.reduceToNat, Int.reduceLT, Int.reduceLE, Int.reduceEq, Int.reduceNe, Int.reduceBEq, Int.reduceBNe, Int.reduceAdd, Int.reduceSub, Int.natCast_nonneg, Bool.false_eq_true, Bool.true_eq_false, eq_self]
    refine endK_some ?_
    refine ⟨_, rfl, ?_⟩
    rw [hk1, List.take_length] at hR
    rw [hR]
    rfl
/- slices.ContainsFunc -/
theorem fTContains_spec (G : Nat → V) (hG : GOk G) (c : Col) (c1 c2 : Col) (a : Sl (Sl Nd)) (ha : a.l.length < 1000000000) (fid : FuncId) (cap : List V) (hen : enterable Try.prog fid = true) (p : (Sl Nd) → Bool) (hcap : cap.map (V.recol Col.ent) = cap)
    (hf : ∀ c1 c2, ∀ x ∈ a.l, Spec Try.prog G fid (encTree c1 c2 x :: cap) hNone (fun v _ => v = .bool (p x))) :
    Spec Try.prog G 43 [encSl c 1 (encTree c1 c2) a, .func (.func fid) [] cap] hNone (fun v _ => v = .bool (a.l.any p)) := by
  refine Spec.of_code' 0 9 [.tmp 4] Try.func43 rfl rfl rfl rfl fun X => ?_
  refine AW.seq_k fun K hK => AW.region (by kernel_rfl) ?_
  simp -implicitDefEqProofs only [go_sem, ↓reduceIte, Nat.reduceEqDiff, Nat.reduceLT, Nat.reduceLeDiff, Nat.reduceAdd, Nat.reduceMul, Nat.reduceSub, Nat.reduceBEq, Int.reduceToNat, Int.reduceLT, Int.reduceLE, Int.reduceEq, Int.reduceNe, Int.reduceBEq, Int.reduceBNe, Int.reduceAdd, Int.reduceSub, Int.natCast_nonneg, Bool.false_eq_true, Bool.true_eq_false, eq_self]
  refine hK _ ?_
  clear hK K
  refine AW.seq_k fun K hK => AW.region (by kernel_rfl) ?_
  simp -implicitDefEqProofs only [go_sem, ↓reduceIte, Nat.reduceEqDiff, Nat.reduceLT, Nat.reduceLeDiff, Nat.reduceAdd, Nat.reduceMul, Nat.reduceSub, Nat.reduceBEq, Int.reduceToNat, Int.reduceLT, Int.reduceLE, Int.reduceEq, Int.reduceNe, Int.reduceBEq, Int.reduceBNe, Int.reduceAdd, Int.reduceSub, Int.natCast_nonneg, Bool.false_eq_true, Bool.true_eq_false, eq_self]
  refine CallA.pure hG (by kernel_rfl) ?_
  simp -implicitDefEqProofs only [go_sem, ↓reduceIte, Nat.reduceEqDiff, Nat.reduceLT, Nat.reduceLeDiff, Nat.reduceAdd, Nat.reduceMul, Nat.reduceSub, Nat.reduceBEq, Int.reduceToNat, Int.reduceLT, Int.reduceLE, Int.reduceEq, Int.reduceNe, Int.reduceBEq, Int.reduceBNe, Int.reduceAdd, Int.reduceSub, Int.natCast_nonneg, Bool.false_eq_true, Bool.true_eq_false, eq_self, List.map_cons, List.map_nil, V.recol, V.recolL_eq, hcap]
  refine (fTIndex_spec G hG _ _ _ a ha fid cap hen p hcap hf).mono ?_
  rintro _ _ ⟨i, rfl, hi⟩
  simp -implicitDefEqProofs only [go_sem, ↓reduceIte, Nat.reduceEqDiff, Nat.reduceLT, Nat.reduceLeDiff, Nat.reduceAdd, Nat.reduceMul, Nat.reduceSub, Nat.reduceBEq, Int.reduceToNat, Int.reduceLT, Int.reduceLE, Int.reduceEq, Int.reduceNe, Int.reduceBEq, Int.reduceBNe, Int.reduceAdd, Int.reduceSub, Int.natCast_nonneg, Bool.false_eq_true, Bool.true_eq_false, eq_self]
  refine hK _ ?_
  clear hK K
  refine AW.ret ?_
  simp -implicitDefEqProofs only [go_sem, ↓reduceIte, Nat.reduceEqDiff, Nat.reduceLT, Nat.reduceLeDiff, Nat.reduceAdd, Nat.reduceMul, Nat.reduceSub, Nat.reduceBEq, Int.reduceToNat, Int.reduceLT, Int.reduceLE, Int.reduceEq, Int.reduceNe, Int.reduceBEq, Int.reduceBNe, Int.reduceAdd, Int.reduceSub, Int.natCast_nonneg, Bool.false_eq_true, Bool.true_eq_false, eq_self]
  refine endK_some ?_
  rw [hi]
end Go.Hs
end

section
namespace Go.Hs
open Go.Proofs
set_option maxRecDepth 10000

/- slices.Equal[[]int,int] -/
theorem sEqual_spec (G : Nat → V) (hG : GOk G) (ca cb : Col) (a b : Sl Int) (ha : a.l.length < 1000000000) :
    Spec Try.prog G 32 [encSl ca 1 (V.int .i64) a, encSl cb 1 (V.int .i64) b] hNone (fun v _ => v = .bool (a.l == b.l)) := by
  refine Spec.of_code' 0 26 [.tmp 4] Try.func32 rfl rfl rfl rfl fun X => ?_
  refine AW.seq_k fun K hK => AW.region (by kernel_rfl) ?_
  simp -implicitDefEqProofs only [go_sem, ↓reduceIte, Nat.reduceEqDiff, Nat.reduceLT, Nat.reduceLeDiff, Nat.reduceAdd, Nat.reduceMul, Nat.reduceSub, Nat.reduceBEq, Int.reduceToNat, Int.reduceLT, Int.reduceLE, Int.reduceEq, Int.reduceNe, Int.reduceBEq, Int.reduceBNe, Int.reduceAdd, Int.reduceSub, Int.natCast_nonneg, Bool.false_eq_true, Bool.true_eq_false, eq_self]
  refine hK _ ?_
  clear hK K
  refine AW.seq_k fun K1 hK1 => ?_
  refine AW.seq_k fun K hK => AW.region (by kernel_rfl) ?_
  simp -implicitDefEqProofs only [go_sem, ↓reduceIte, Nat.reduceEqDiff, Nat.reduceLT, Nat.reduceLeDiff, Nat.reduceAdd, Nat.reduceMul, Nat.reduceSub, Nat.reduceBEq, Int.reduceToNat, Int.reduceLT, Int.reduceLE, Int.reduceEq, Int.reduceNe, Int.reduceBEq, Int.reduceBNe, Int.reduceAdd, Int.reduceSub, Int.natCast_nonneg, Bool.false_eq_true, Bool.true_eq_false, eq_self]
  refine hK _ ?_
  clear hK K
  refine AW.condS (by simp -implicitDefEqProofs only [go_sem, ↓reduceIte, Nat.reduceEqDiff, Nat.reduceLT, Nat.reduceLeDiff, Nat.reduceAdd, Nat.reduceMul, Nat.reduceSub, Nat.reduceBEq, Int.reduceToNat, Int.reduceLT, Int.reduceLE, Int.reduceEq, Int.reduceNe, Int.reduceBEq, Int.reduceBNe, Int.reduceAdd, Int.reduceSub, Int.natCast_nonneg, Bool.false_eq_true, Bool.true_eq_false, eq_self]; rfl) (fun h2 => ?_) (fun h2 => ?_)
  · -- true
    refine AW.seq_k fun K hK => AW.region (by kernel_rfl) ?_
    simp -implicitDefEqProofs only [go_sem, ↓reduceIte, Nat.reduceEqDiff, Nat.reduceLT, Nat.reduceLeDiff, Nat.reduceAdd, Nat.reduceMul, Nat.reduceSub, Nat.reduceBEq, Int.reduceToNat, Int.reduceLT, Int.reduceLE, Int.reduceEq, Int.reduceNe, Int.reduceBEq, Int.reduceBNe, Int.reduceAdd, Int.reduceSub, Int.natCast_nonneg, Bool.false_eq_true, Bool.true_eq_false, eq_self]
    refine hK _ ?_
    clear hK K
    refine AW.ret ?_
    simp -implicitDefEqProofs only [go_sem, ↓reduceIte, Nat.reduceEqDiff, Nat.reduceLT, Nat.reduceLeDiff, Nat.reduceAdd, Nat.reduceMul, Nat.reduceSub, Nat.reduceBEq, Int.reduceToNat, Int.reduceLT, Int.reduceLE, Int.reduceEq, Int.reduceNe, Int.reduceBEq, Int.reduceBNe, Int.reduceAdd, Int.reduceSub, Int.natCast_nonneg, Bool.false_eq_true, Bool.true_eq_false, eq_self]
    refine endK_some ?_
    simp at h2 ⊢
    intro e
    rw [e] at h2
    exact h2 rfl
  · -- false
    refine AW.skip ?_
    simp -implicitDefEqProofs only [go_sem, ↓reduceIte, Nat.reduceEqDiff, Nat.reduceLT, Nat.reduceLeDiff, Nat.reduceAdd, Nat.reduceMul, Nat.reduceSub, Nat.reduceBEq, Int.reduceToNat, Int.reduceLT, Int.reduceLE, Int.reduceEq, Int.reduceNe, Int.reduceBEq, Int.reduceBNe, Int.reduceAdd, Int.reduceSub, Int.natCast_nonneg, Bool.false_eq_true, Bool.true_eq_false, eq_self]
    refine hK1 _ ?_
    have hl : a.l.length = b.l.length := by simp at h2; omega
    refine AW.seq_k fun K3 hK3 => ?_
    refine AW.seq_k fun K hK => AW.region (by kernel_rfl) ?_
    simp -implicitDefEqProofs only [go_sem, ↓reduceIte, Nat.reduceEqDiff, Nat.reduceLT, Nat.reduceLeDiff, Nat.reduceAdd, Nat.reduceMul, Nat.reduceSub, Nat.reduceBEq, Int.reduceToNat, Int.reduceLT, Int.reduceLE, Int.reduceEq, Int.reduceNe, Int.reduceBEq, Int.reduceBNe, Int.reduceAdd, Int.reduceSub, Int.natCast_nonneg, Bool.false_eq_true, Bool.true_eq_false, eq_self]
    refine hK _ ?_
    clear hK K
    refine AW.block ?_
    refine AW.for a.l.length (fun k (_ : Unit) => st [(0, encSl ca 1 (V.int .i64) a), (1, encSl cb 1 (V.int .i64) b), (12, .int .i64 a.l.length), (13, .int .i64 k)] []) (fun k _ => a.l.take k = b.l.take k) 0 () (Nat.zero_le _) (by simp)
      (Weak.st (by simp -implicitDefEqProofs only [go_sem, ↓reduceIte, Nat.reduceEqDiff, Nat.reduceLT, Nat.reduceLeDiff, Nat.reduceAdd, Nat.reduceMul, Nat.reduceSub, Nat.reduceBEq, Int.reduceToNat, Int.reduceLT, Int.reduceLE, Int.reduceEq, Int.reduceNe, Int.reduceBEq, Int.reduceBNe, Int.reduceAdd, Int.reduceSub, Int.natCast_nonneg, Bool.false_eq_true, Bool.true_eq_false, eq_self]; simp) (by simp -implicitDefEqProofs only [go_sem, ↓reduceIte, Nat.reduceEqDiff, Nat.reduceLT, Nat.reduceLeDiff, Nat.reduceAdd, Nat.reduceMul, Nat.reduceSub, Nat.reduceBEq, Int.reduceToNat, Int.reduceLT, Int.reduceLE, Int.reduceEq, Int.reduceNe, Int.reduceBEq, Int.reduceBNe, Int.reduceAdd, Int.reduceSub, Int.natCast_nonneg, Bool.false_eq_true, Bool.true_eq_false, eq_self])) ?_
    intro k _ hk hR L4 hL4
    refine AW.seq_k fun K hK => AW.region (by kernel_rfl) ?_
    simp -implicitDefEqProofs only [go_sem, ↓reduceIte, Nat.reduceEqDiff, Nat.reduceLT, Nat.reduceLeDiff, Nat.reduceAdd, Nat.reduceMul, Nat.reduceSub, Nat.reduceBEq, Int.reduceToNat, Int.reduceLT, Int.reduceLE, Int.reduceEq, Int.reduceNe, Int.reduceBEq, Int.reduceBNe, Int.reduceAdd, Int.reduceSub, Int.natCast_nonneg, Bool.false_eq_true, Bool.true_eq_false, eq_self]
    refine hK _ ?_
    clear hK K
    refine AW.seq_k fun K5 hK5 => ?_
    refine AW.condS (by simp -implicitDefEqProofs only [go_sem, ↓reduceIte, Nat.reduceEqDiff, Nat.reduceLT, Nat.reduceLeDiff, Nat.reduceAdd, Nat.reduceMul, Nat.reduceSub, Nat.reduceBEq, Int.reduceToNat, Int.reduceLT, Int.reduceLE, Int.reduceEq, Int.reduceNe, Int.reduceBEq, Int.reduceBNe, Int.reduceAdd, Int.reduceSub, Int.natCast_nonneg, Bool.false_eq_true, Bool.true_eq_false, eq_self]; rfl) (fun h6 => ?_) (fun h6 => ?_)
    · -- true
      refine AW.skip ?_
      simp -implicitDefEqProofs only [go_sem, ↓reduceIte, Nat.reduceEqDiff, Nat.reduceLT, Nat.reduceLeDiff, Nat.reduceAdd, Nat.reduceMul, Nat.reduceSub, Nat.reduceBEq, Int.reduceToNat, Int.reduceLT, Int.reduceLE, Int.reduceEq, Int.reduceNe, Int.reduceBEq, Int.reduceBNe, Int.reduceAdd, Int.reduceSub, Int.natCast_nonneg, Bool.false_eq_true, Bool.true_eq_false, eq_self]
      refine hK5 _ ?_
      have hk1 : k < a.l.length := by simpa using h6
      have hk2 : k < b.l.length := by omega
      refine AW.seq_k fun K7 hK7 => ?_
      refine AW.block ?_
      refine AW.seq_k fun K hK => AW.region (by kernel_rfl) ?_
      simp -implicitDefEqProofs only [go_sem, ↓reduceIte, Nat.reduceEqDiff, Nat.reduceLT, Nat.reduceLeDiff, Nat.reduceAdd, Nat.reduceMul, Nat.reduceSub, Nat.reduceBEq, Int.reduceToNat, Int.reduceLT, Int.reduceLE, Int.reduceEq, Int.reduceNe, Int.reduceBEq, Int.reduceBNe, Int.reduceAdd, Int.reduceSub, Int.natCast_nonneg, Bool.false_eq_true, Bool.true_eq_false, eq_self]
      refine hK _ ?_
      clear hK K
      refine AW.seq_k fun K hK => AW.regionT ⟨fun _ => .top, fun _ => .pure⟩ (by kernel_rfl) hG (by kernel_rfl) (by kernel_rfl) ?_
      simp -implicitDefEqProofs only [go_sem, ↓reduceIte, Nat.reduceEqDiff, Nat.reduceLT, Nat.reduceLeDiff, Nat.reduceAdd, Nat.reduceMul, Nat.reduceSub, Nat.reduceBEq, Int.reduceToNat, Int.reduceLT, Int.reduceLE, Int.reduceEq, Int.reduceNe, Int.reduceBEq, Int.reduceBNe, Int.reduceAdd, Int.reduceSub, Int.natCast_nonneg, Bool.false_eq_true, Bool.true_eq_false, eq_self, List.getElem?_eq_getElem hk1, List.getElem?_eq_getElem hk2]
      refine hK _ ?_
      clear hK K
      refine AW.condS (by simp -implicitDefEqProofs only [go_sem, ↓reduceIte, Nat.reduceEqDiff, Nat.reduceLT, Nat.reduceLeDiff, Nat.reduceAdd, Nat.reduceMul, Nat.reduceSub, Nat.reduceBEq, Int.reduceToNat, Int.reduceLT, Int.reduceLE, Int.reduceEq, Int.reduceNe, Int.reduceBEq, Int.reduceBNe, Int.reduceAdd, Int.reduceSub, Int.natCast_nonneg, Bool.false_eq_true, Bool.true_eq_false, eq_self]; rfl) (fun h8 => ?_) (fun h8 => ?_)
      · -- true
        refine AW.seq_k fun K hK => AW.region (by kernel_rfl) ?_
        simp -implicitDefEqProofs only [go_sem, ↓reduceIte, Nat.reduceEqDiff, Nat.reduceLT, Nat.reduceLeDiff, Nat.reduceAdd, Nat.reduceMul, Nat.reduceSub, Nat.reduceBEq, Int.reduceToNat, Int.reduceLT, Int.reduceLE, Int.reduceEq, Int.reduceNe, Int.reduceBEq, Int.reduceBNe, Int.reduceAdd, Int.reduceSub, Int.natCast_nonneg, Bool.false_eq_true, Bool.true_eq_false, eq_self]
        refine hK _ ?_
        clear hK K
        refine AW.ret ?_
        simp -implicitDefEqProofs only [go_sem, ↓reduceIte, Nat.reduceEqDiff, Nat.reduceLT, Nat.reduceLeDiff, Nat.reduceAdd, Nat.reduceMul, Nat.reduceSub, Nat.reduceBEq, Int.reduceToNat, Int.reduceLT, Int.reduceLE, Int.reduceEq, Int.reduceNe, Int.reduceBEq, Int.reduceBNe, Int.reduceAdd, Int.reduceSub, Int.natCast_nonneg, Bool.false_eq_true, Bool.true_eq_false, eq_self]
        refine endK_some ?_
        simp at h8
        simp
        intro e
        simp [e] at h8
      · -- false
        refine AW.skip ?_
        simp -implicitDefEqProofs only [go_sem, ↓reduceIte, Nat.reduceEqDiff, Nat.reduceLT, Nat.reduceLeDiff, Nat.reduceAdd, Nat.reduceMul, Nat.reduceSub, Nat.reduceBEq, Int.reduceToNat, Int.reduceLT, Int.reduceLE, Int.reduceEq, Int.reduceNe, Int.reduceBEq, Int.reduceBNe, Int.reduceAdd, Int.reduceSub, Int.natCast_nonneg, Bool.false_eq_true, Bool.true_eq_false, eq_self]
        refine hK7 _ ?_
        have h3' : a.l[k] = b.l[k] := by simpa using h8
        refine AW.region (by kernel_rfl) ?_
        simp -implicitDefEqProofs only [go_sem, ↓reduceIte, Nat.reduceEqDiff, Nat.reduceLT, Nat.reduceLeDiff, Nat.reduceAdd, Nat.reduceMul, Nat.reduceSub, Nat.reduceBEq, Int.reduceToNat, Int.reduceLT, Int.reduceLE, Int.reduceEq, Int.reduceNe, Int.reduceBEq, Int.reduceBNe, Int.reduceAdd, Int.reduceSub, Int.natCast_nonneg, Bool.false_eq_true, Bool.true_eq_false, eq_self]
        refine hL4 _ ⟨hk1, (), ?_, Weak.st (by simp -implicitDefEqProofs only [go_sem, ↓reduceIte, Nat.reduceEqDiff, Nat.reduceLT, Nat.reduceLeDiff, Nat.reduceAdd, Nat.reduceMul, Nat.reduceSub, Nat.reduceBEq, Int.reduceToNat, Int.reduceLT, Int.reduceLE, Int.reduceEq, Int.reduceNe, Int.reduceBEq, Int.reduceBNe, Int.reduceAdd, Int.reduceSub, Int.natCast_nonneg, Bool.false_eq_true, Bool.true_eq_false, eq_self]; simp; exact w64 (by omega) (by omega)) (by simp -implicitDefEqProofs only [go_sem, ↓reduceIte, Nat.reduceEqDiff, Nat.reduceLT, Nat.reduceLeDiff, Nat.reduceAdd, Nat.reduceMul, Nat.reduceSub, Nat.reduceBEq, Int.reduceToNat, Int.reduceLT, Int.reduceLE, Int.reduceEq, Int.reduceNe, Int.reduceBEq, Int.reduceBNe, Int.reduceAdd, Int.reduceSub, Int.natCast_nonneg, Bool.false_eq_true, Bool.true_eq_false, eq_self])⟩
        rw [List.take_succ_eq_append_getElem hk1, List.take_succ_eq_append_getElem hk2, hR, h3']
    · -- false
      refine AW.exit ?_
      simp -implicitDefEqProofs only [go_sem, ↓reduceIte, Nat.reduceEqDiff, Nat.reduceLT, Nat.reduceLeDiff, Nat.reduceAdd, Nat.reduceMul, Nat.reduceSub, Nat.reduceBEq, Int.reduceToNat, Int.reduceLT, Int.reduceLE, Int.reduceEq, Int.reduceNe, Int.reduceBEq, Int.reduceBNe, Int.reduceAdd, Int.reduceSub, Int.natCast_nonneg, Bool.false_eq_true, Bool.true_eq_false, eq_self]
      refine hK3 _ ?_
      have hk1 : k = a.l.length := by simp at h6; omega
      refine AW.seq_k fun K hK => AW.region (by kernel_rfl) ?_
      simp -implicitDefEqProofs only [go_sem, ↓reduceIte, Nat.reduceEqDiff, Nat.reduceLT, Nat.reduceLeDiff, Nat.reduceAdd, Nat.reduceMul, Nat.reduceSub, Nat.reduceBEq, Int.reduceToNat, Int.reduceLT, Int.reduceLE, Int.reduceEq, Int.reduceNe, Int.reduceBEq, Int.reduceBNe, Int.reduceAdd, Int.reduceSub, Int.natCast_nonneg, Bool.false_eq_true, Bool.true_eq_false, eq_self]
      refine hK _ ?_
      clear hK K
      refine AW.ret ?_
      simp -implicitDefEqProofs only [go_sem, ↓reduceIte, Nat.reduceEqDiff, Nat.reduceLT, Nat.reduceLeDiff, Nat.reduceAdd, Nat.reduceMul, Nat.reduceSub, Nat.reduceBEq, Int.reduceToNat, Int.reduceLT, Int.reduceLE, Int.reduceEq, Int.reduceNe, Int.reduceBEq, Int.reduceBNe, Int.reduceAdd, Int.reduceSub, Int.natCast_nonneg, Bool.false_eq_true, Bool.true_eq_false, eq_self]
      refine endK_some ?_
      subst hk1
      rw [List.take_length, hl, List.take_length] at hR
      simp [hR]
end Go.Hs
end

section
namespace Go.Hs
open Go.Proofs
set_option maxRecDepth 10000

theorem sameInts_spec (G : Nat → V) (hG : GOk G) (ca cb : Col) (a b : Sl Int) (ha : a.l.length < 1000000000) (hb : b.l.length < 1000000000) :
    Spec Try.prog G 20 [encSl ca 1 (V.int .i64) a, encSl cb 1 (V.int .i64) b] hNone (fun v _ => v = .bool (a.l == b.l)) := by
  refine Spec.of_code' 0 26 [.tmp 4] Try.func20 rfl rfl rfl rfl fun X => ?_
  refine AW.seq_k fun K hK => AW.region (by kernel_rfl) ?_
  simp -implicitDefEqProofs only [go_sem, ↓reduceIte, Nat.reduceEqDiff, Nat.reduceLT, Nat.reduceLeDiff, Nat.reduceAdd, Nat.reduceMul, Nat.reduceSub, Nat.reduceBEq, Int.reduceToNat, Int.reduceLT, Int.reduceLE, Int.reduceEq, Int.reduceNe, Int.reduceBEq, Int.reduceBNe, Int.reduceAdd, Int.reduceSub, Int.natCast_nonneg, Bool.false_eq_true, Bool.true_eq_false, eq_self]
  refine hK _ ?_
  clear hK K
  refine AW.seq_k fun K hK => ?_
  refine AW.seq_k fun K hK => AW.region (by kernel_rfl) ?_
  simp -implicitDefEqProofs only [go_sem, ↓reduceIte, Nat.reduceEqDiff, Nat.reduceLT, Nat.reduceLeDiff, Nat.reduceAdd, Nat.reduceMul, Nat.reduceSub, Nat.reduceBEq, Int.reduceToNat, Int.reduceLT, Int.reduceLE, Int.reduceEq, Int.reduceNe, Int.reduceBEq, Int.reduceBNe, Int.reduceAdd, Int.reduceSub, Int.natCast_nonneg, Bool.false_eq_true, Bool.true_eq_false, eq_self]
  refine hK _ ?_
  clear hK K
  refine AW.condS (by simp -implicitDefEqProofs only [go_sem, ↓reduceIte, Nat.reduceEqDiff, Nat.reduceLT, Nat.reduceLeDiff, Nat.reduceAdd, Nat.reduceMul, Nat.reduceSub, Nat.reduceBEq, Int.reduceToNat, Int.reduceLT, Int.reduceLE, Int.reduceEq, Int.reduceNe, Int.reduceBEq, Int.reduceBNe, Int.reduceAdd, Int.reduceSub, Int.natCast_nonneg, Bool.false_eq_true, Bool.true_eq_false, eq_self]; rfl) (fun h => ?_) (fun h => ?_)
  · refine AW.seq_k fun K hK => AW.region (by kernel_rfl) ?_
    simp -implicitDefEqProofs only [go_sem, ↓reduceIte, Nat.reduceEqDiff, Nat.reduceLT, Nat.reduceLeDiff, Nat.reduceAdd, Nat.reduceMul, Nat.reduceSub, Nat.reduceBEq, Int.reduceToNat, Int.reduceLT, Int.reduceLE, Int.reduceEq, Int.reduceNe, Int.reduceBEq, Int.reduceBNe, Int.reduceAdd, Int.reduceSub, Int.natCast_nonneg, Bool.false_eq_true, Bool.true_eq_false, eq_self]
    refine hK _ ?_
    clear hK K
    refine AW.ret ?_
    simp -implicitDefEqProofs only [go_sem, ↓reduceIte, Nat.reduceEqDiff, Nat.reduceLT, Nat.reduceLeDiff, Nat.reduceAdd, Nat.reduceMul, Nat.reduceSub, Nat.reduceBEq, Int.reduceToNat, Int.reduceLT, Int.reduceLE, Int.reduceEq, Int.reduceNe, Int.reduceBEq, Int.reduceBNe, Int.reduceAdd, Int.reduceSub, Int.natCast_nonneg, Bool.false_eq_true, Bool.true_eq_false, eq_self]
    refine endK_some ?_
    simp at h ⊢
    intro e
    rw [e] at h
    exact h rfl
  refine AW.skip ?_
  refine hK _ ?_
  have hl : a.l.length = b.l.length := by simp at h; omega
  refine AW.seq_k fun K hK => ?_
  refine AW.seq_k fun K hK => AW.region (by kernel_rfl) ?_
  simp -implicitDefEqProofs only [go_sem, ↓reduceIte, Nat.reduceEqDiff, Nat.reduceLT, Nat.reduceLeDiff, Nat.reduceAdd, Nat.reduceMul, Nat.reduceSub, Nat.reduceBEq, Int.reduceToNat, Int.reduceLT, Int.reduceLE, Int.reduceEq, Int.reduceNe, Int.reduceBEq, Int.reduceBNe, Int.reduceAdd, Int.reduceSub, Int.natCast_nonneg, Bool.false_eq_true, Bool.true_eq_false, eq_self]
  refine hK _ ?_
  clear hK K
  refine AW.block ?_
  refine AW.for a.l.length (fun k (_ : Unit) => st [(0, encSl ca 1 (V.int .i64) a), (1, encSl cb 1 (V.int .i64) b), (5, .int .i64 k)] []) (fun k _ => a.l.take k = b.l.take k) 0 () (Nat.zero_le _) (by simp)
    (Weak.st (by simp -implicitDefEqProofs only [go_sem, ↓reduceIte, Nat.reduceEqDiff, Nat.reduceLT, Nat.reduceLeDiff, Nat.reduceAdd, Nat.reduceMul, Nat.reduceSub, Nat.reduceBEq, Int.reduceToNat, Int.reduceLT, Int.reduceLE, Int.reduceEq, Int.reduceNe, Int.reduceBEq, Int.reduceBNe, Int.reduceAdd, Int.reduceSub, Int.natCast_nonneg, Bool.false_eq_true, Bool.true_eq_false, eq_self]; simp) (by simp -implicitDefEqProofs only [go_sem, ↓reduceIte, Nat.reduceEqDiff, Nat.reduceLT, Nat.reduceLeDiff, Nat.reduceAdd, Nat.reduceMul, Nat.reduceSub, Nat.reduceBEq, Int.reduceToNat, Int.reduceLT, Int.reduceLE, Int.reduceEq, Int.reduceNe, Int.reduceBEq, Int.reduceBNe, Int.reduceAdd, Int.reduceSub, Int.natCast_nonneg, Bool.false_eq_true, Bool.true_eq_false, eq_self])) ?_
  intro k _ hk hR L hL
  unfold st
  refine AW.seq_k fun K2 hK2 => ?_
  refine AW.seq_k fun K hK => AW.region (by kernel_rfl) ?_
  simp -implicitDefEqProofs only [go_sem, ↓reduceIte, Nat.reduceEqDiff, Nat.reduceLT, Nat.reduceLeDiff, Nat.reduceAdd, Nat.reduceMul, Nat.reduceSub, Nat.reduceBEq, Int.reduceToNat, Int.reduceLT, Int.reduceLE, Int.reduceEq, Int.reduceNe, Int.reduceBEq, Int.reduceBNe, Int.reduceAdd, Int.reduceSub, Int.natCast_nonneg, Bool.false_eq_true, Bool.true_eq_false, eq_self]
  refine hK _ ?_
  clear hK K
  refine AW.condS (by simp -implicitDefEqProofs only [go_sem, ↓reduceIte, Nat.reduceEqDiff, Nat.reduceLT, Nat.reduceLeDiff, Nat.reduceAdd, Nat.reduceMul, Nat.reduceSub, Nat.reduceBEq, Int.reduceToNat, Int.reduceLT, Int.reduceLE, Int.reduceEq, Int.reduceNe, Int.reduceBEq, Int.reduceBNe, Int.reduceAdd, Int.reduceSub, Int.natCast_nonneg, Bool.false_eq_true, Bool.true_eq_false, eq_self]; rfl) (fun h2 => ?_) (fun h2 => ?_)
  · refine AW.skip ?_
    refine hK2 _ ?_
    have hk1 : k < a.l.length := by simpa using h2
    have hk2 : k < b.l.length := by omega
    refine AW.seq_k fun K2 hK2 => ?_
    refine AW.block ?_
    refine AW.seq_k fun K hK => AW.regionT ⟨fun _ => .top, fun _ => .pure⟩ (by kernel_rfl) hG (by kernel_rfl) (by kernel_rfl) ?_
    simp -implicitDefEqProofs only [go_sem, ↓reduceIte, Nat.reduceEqDiff, Nat.reduceLT, Nat.reduceLeDiff, Nat.reduceAdd, Nat.reduceMul, Nat.reduceSub, Nat.reduceBEq, Int.reduceToNat, Int.reduceLT, Int.reduceLE, Int.reduceEq, Int.reduceNe, Int.reduceBEq, Int.reduceBNe, Int.reduceAdd, Int.reduceSub, Int.natCast_nonneg, Bool.false_eq_true, Bool.true_eq_false, eq_self, List.getElem?_eq_getElem hk1, List.getElem?_eq_getElem hk2, Int.natCast_nonneg]
    refine hK _ ?_
    clear hK K
    refine AW.condS (by simp -implicitDefEqProofs only [go_sem, ↓reduceIte, Nat.reduceEqDiff, Nat.reduceLT, Nat.reduceLeDiff, Nat.reduceAdd, Nat.reduceMul, Nat.reduceSub, Nat.reduceBEq, Int.reduceToNat, Int.reduceLT, Int.reduceLE, Int.reduceEq, Int.reduceNe, Int.reduceBEq, Int.reduceBNe, Int.reduceAdd, Int.reduceSub, Int.natCast_nonneg, Bool.false_eq_true, Bool.true_eq_false, eq_self]; rfl) (fun h3 => ?_) (fun h3 => ?_)
    · refine AW.seq_k fun K3 hK3 => ?_
      refine AW.region (by kernel_rfl) ?_
      simp -implicitDefEqProofs only [go_sem, ↓reduceIte, Nat.reduceEqDiff, Nat.reduceLT, Nat.reduceLeDiff, Nat.reduceAdd, Nat.reduceMul, Nat.reduceSub, Nat.reduceBEq, Int.reduceToNat, Int.reduceLT, Int.reduceLE, Int.reduceEq, Int.reduceNe, Int.reduceBEq, Int.reduceBNe, Int.reduceAdd, Int.reduceSub, Int.natCast_nonneg, Bool.false_eq_true, Bool.true_eq_false, eq_self]
      refine hK3 _ ?_
      refine AW.ret ?_
      simp -implicitDefEqProofs only [go_sem, ↓reduceIte, Nat.reduceEqDiff, Nat.reduceLT, Nat.reduceLeDiff, Nat.reduceAdd, Nat.reduceMul, Nat.reduceSub, Nat.reduceBEq, Int.reduceToNat, Int.reduceLT, Int.reduceLE, Int.reduceEq, Int.reduceNe, Int.reduceBEq, Int.reduceBNe, Int.reduceAdd, Int.reduceSub, Int.natCast_nonneg, Bool.false_eq_true, Bool.true_eq_false, eq_self]
      refine endK_some ?_
      simp at h3
      simp
      intro e
      simp [e] at h3
    refine AW.skip ?_
    simp -implicitDefEqProofs only [go_sem, ↓reduceIte, Nat.reduceEqDiff, Nat.reduceLT, Nat.reduceLeDiff, Nat.reduceAdd, Nat.reduceMul, Nat.reduceSub, Nat.reduceBEq, Int.reduceToNat, Int.reduceLT, Int.reduceLE, Int.reduceEq, Int.reduceNe, Int.reduceBEq, Int.reduceBNe, Int.reduceAdd, Int.reduceSub, Int.natCast_nonneg, Bool.false_eq_true, Bool.true_eq_false, eq_self]
    refine hK2 _ ?_
    have h3' : a.l[k] = b.l[k] := by simpa using h3
    refine AW.region (by kernel_rfl) ?_
    simp -implicitDefEqProofs only [go_sem, ↓reduceIte, Nat.reduceEqDiff, Nat.reduceLT, Nat.reduceLeDiff, Nat.reduceAdd, Nat.reduceMul, Nat.reduceSub, Nat.reduceBEq, Int.reduceToNat, Int.reduceLT, Int.reduceLE, Int.reduceEq, Int.reduceNe, Int.reduceBEq, Int.reduceBNe, Int.reduceAdd, Int.reduceSub, Int.natCast_nonneg, Bool.false_eq_true, Bool.true_eq_false, eq_self]
    refine hL _ ⟨hk1, (), ?_, Weak.st (by simp -implicitDefEqProofs only [go_sem, ↓reduceIte, Nat.reduceEqDiff, Nat.reduceLT, Nat.reduceLeDiff, Nat.reduceAdd, Nat.reduceMul, Nat.reduceSub, Nat.reduceBEq, Int.reduceToNat, Int.reduceLT, Int.reduceLE, Int.reduceEq, Int.reduceNe, Int.reduceBEq, Int.reduceBNe, Int.reduceAdd, Int.reduceSub, Int.natCast_nonneg, Bool.false_eq_true, Bool.true_eq_false, eq_self]; simp; exact w64 (by omega) (by omega)) (by simp -implicitDefEqProofs only [go_sem, ↓reduceIte, Nat.reduceEqDiff, Nat.reduceLT, Nat.reduceLeDiff, Nat.reduceAdd, Nat.reduceMul, Nat.reduceSub, Nat.reduceBEq, Int.reduceToNat, Int.reduceLT, Int.reduceLE, Int.reduceEq, Int.reduceNe, Int.reduceBEq, Int.reduceBNe, Int.reduceAdd, Int.reduceSub, Int.natCast_nonneg, Bool.false_eq_true, Bool.true_eq_false, eq_self])⟩
    rw [List.take_succ_eq_append_getElem hk1, List.take_succ_eq_append_getElem hk2, hR, h3']
  · refine AW.exit ?_
    simp -implicitDefEqProofs only [go_sem, ↓reduceIte, Nat.reduceEqDiff, Nat.reduceLT, Nat.reduceLeDiff, Nat.reduceAdd, Nat.reduceMul, Nat.reduceSub, Nat.reduceBEq, Int.reduceToNat, Int.reduceLT, Int.reduceLE, Int.reduceEq, Int.reduceNe, Int.reduceBEq, Int.reduceBNe, Int.reduceAdd, Int.reduceSub, Int.natCast_nonneg, Bool.false_eq_true, Bool.true_eq_false, eq_self]
    refine hK _ ?_
    skip
    have hk1 : k = a.l.length := by simp at h2; omega
    refine AW.seq_k fun K hK => AW.region (by kernel_rfl) ?_
    simp -implicitDefEqProofs only [go_sem, ↓reduceIte, Nat.reduceEqDiff, Nat.reduceLT, Nat.reduceLeDiff, Nat.reduceAdd, Nat.reduceMul, Nat.reduceSub, Nat.reduceBEq, Int.reduceToNat, Int.reduceLT, Int.reduceLE, Int.reduceEq, Int.reduceNe, Int.reduceBEq, Int.reduceBNe, Int.reduceAdd, Int.reduceSub, Int.natCast_nonneg, Bool.false_eq_true, Bool.true_eq_false, eq_self]
    refine hK _ ?_
    clear hK K
    refine AW.ret ?_
    simp -implicitDefEqProofs only [go_sem, ↓reduceIte, Nat.reduceEqDiff, Nat.reduceLT, Nat.reduceLeDiff, Nat.reduceAdd, Nat.reduceMul, Nat.reduceSub, Nat.reduceBEq, Int.reduceToNat, Int.reduceLT, Int.reduceLE, Int.reduceEq, Int.reduceNe, Int.reduceBEq, Int.reduceBNe, Int.reduceAdd, Int.reduceSub, Int.natCast_nonneg, Bool.false_eq_true, Bool.true_eq_false, eq_self]
    refine endK_some ?_
    subst hk1
    rw [List.take_length, hl, List.take_length] at hR
    simp [hR]

end Go.Hs
end

section
namespace Go.Hs
open Go.Proofs
set_option maxRecDepth 10000

theorem bne_f {a b : Int} (h : a = b) : (a != b) = false := by simp [h]
theorem bne_t {a b : Int} (h : ¬ a = b) : (a != b) = true := by simpa using h
/- hopscotchlaw22.is -/

theorem is_spec (G : Nat → V) (hG : GOk G) (c1 c2 c3 c4 : Col) (t l : Sl Nd) (ht : l.l.length < 1000000000) (hk : ∀ n ∈ t.l, n.kids.l.length < 1000000000) (hk' : ∀ n ∈ l.l, n.kids.l.length < 1000000000) :
    Spec Try.prog G 14 [encTree c1 c2 t, encNds c3 c4 l] hNone (fun v _ => v = .bool (t.l.map Nd.v == l.l.map Nd.v)) := by
  refine Spec.of_code' 0 59 [.tmp 4] Try.func14 rfl rfl rfl rfl fun X => ?_
  refine AW.seq_k fun K hK => AW.region (by kernel_rfl) ?_
  simp -implicitDefEqProofs only [go_sem, ↓reduceIte, Nat.reduceEqDiff, Nat.reduceLT, Nat.reduceLeDiff, Nat.reduceAdd, Nat.reduceMul, Nat.reduceSub, Nat.reduceBEq, Int.reduceToNat, Int.reduceLT, Int.reduceLE, Int.reduceEq, Int.reduceNe, Int.reduceBEq, Int.reduceBNe, Int.reduceAdd, Int.reduceSub, Int.natCast_nonneg, Bool.false_eq_true, Bool.true_eq_false, eq_self]
  intro g2
  refine hK _ ?_
  clear hK K
  refine AW.seq_k fun K1 hK1 => ?_
  refine AW.seq_k fun K hK => AW.region (by kernel_rfl) ?_
  simp -implicitDefEqProofs only [go_sem, ↓reduceIte, Nat.reduceEqDiff, Nat.reduceLT, Nat.reduceLeDiff, Nat.reduceAdd, Nat.reduceMul, Nat.reduceSub, Nat.reduceBEq, Int.reduceToNat, Int.reduceLT, Int.reduceLE, Int.reduceEq, Int.reduceNe, Int.reduceBEq, Int.reduceBNe, Int.reduceAdd, Int.reduceSub, Int.natCast_nonneg, Bool.false_eq_true, Bool.true_eq_false, eq_self]
  refine hK _ ?_
  clear hK K
  refine AW.condS (by simp -implicitDefEqProofs only [go_sem, ↓reduceIte, Nat.reduceEqDiff, Nat.reduceLT, Nat.reduceLeDiff, Nat.reduceAdd, Nat.reduceMul, Nat.reduceSub, Nat.reduceBEq, Int.reduceToNat, Int.reduceLT, Int.reduceLE, Int.reduceEq, Int.reduceNe, Int.reduceBEq, Int.reduceBNe, Int.reduceAdd, Int.reduceSub, Int.natCast_nonneg, Bool.false_eq_true, Bool.true_eq_false, eq_self]; rfl) (fun h2 => ?_) (fun h2 => ?_)
  · -- true
    refine AW.seq_k fun K hK => AW.region (by kernel_rfl) ?_
    simp -implicitDefEqProofs only [go_sem, ↓reduceIte, Nat.reduceEqDiff, Nat.reduceLT, Nat.reduceLeDiff, Nat.reduceAdd, Nat.reduceMul, Nat.reduceSub, Nat.reduceBEq, Int.reduceToNat, Int.reduceLT, Int.reduceLE, Int.reduceEq, Int.reduceNe, Int.reduceBEq, Int.reduceBNe, Int.reduceAdd, Int.reduceSub, Int.natCast_nonneg, Bool.false_eq_true, Bool.true_eq_false, eq_self]
    refine hK _ ?_
    clear hK K
    refine AW.ret ?_
    simp -implicitDefEqProofs only [go_sem, ↓reduceIte, Nat.reduceEqDiff, Nat.reduceLT, Nat.reduceLeDiff, Nat.reduceAdd, Nat.reduceMul, Nat.reduceSub, Nat.reduceBEq, Int.reduceToNat, Int.reduceLT, Int.reduceLE, Int.reduceEq, Int.reduceNe, Int.reduceBEq, Int.reduceBNe, Int.reduceAdd, Int.reduceSub, Int.natCast_nonneg, Bool.false_eq_true, Bool.true_eq_false, eq_self]
    refine endK_some ?_
    simp at h2 ⊢
    intro e
    have := congrArg List.length e
    simp at this
    exact h2 (by omega)
  · -- false
    refine AW.skip ?_
    simp -implicitDefEqProofs only [go_sem, ↓reduceIte, Nat.reduceEqDiff, Nat.reduceLT, Nat.reduceLeDiff, Nat.reduceAdd, Nat.reduceMul, Nat.reduceSub, Nat.reduceBEq, Int.reduceToNat, Int.reduceLT, Int.reduceLE, Int.reduceEq, Int.reduceNe, Int.reduceBEq, Int.reduceBNe, Int.reduceAdd, Int.reduceSub, Int.natCast_nonneg, Bool.false_eq_true, Bool.true_eq_false, eq_self]
    refine hK1 _ ?_
    have hl : t.l.length = l.l.length := by simp at h2; omega
    refine AW.seq_k fun K3 hK3 => ?_
    refine AW.seq_k fun K hK => AW.region (by kernel_rfl) ?_
    simp -implicitDefEqProofs only [go_sem, ↓reduceIte, Nat.reduceEqDiff, Nat.reduceLT, Nat.reduceLeDiff, Nat.reduceAdd, Nat.reduceMul, Nat.reduceSub, Nat.reduceBEq, Int.reduceToNat, Int.reduceLT, Int.reduceLE, Int.reduceEq, Int.reduceNe, Int.reduceBEq, Int.reduceBNe, Int.reduceAdd, Int.reduceSub, Int.natCast_nonneg, Bool.false_eq_true, Bool.true_eq_false, eq_self]
    refine hK _ ?_
    clear hK K
    refine AW.block ?_
    refine AW.for l.l.length (fun k (_ : Unit) => st [(1, encSl c3 3 (encNd c4) l), (2, .ptr 2 g2 0), (5, .int .i64 k)] [(2, .cells .new g2 0 [encSl c1 3 (encNd c2) t])]) (fun k _ => (t.l.take k).map Nd.v = (l.l.take k).map Nd.v) 0 () (Nat.zero_le _) (by simp)
      (Weak.st (by simp -implicitDefEqProofs only [go_sem, ↓reduceIte, Nat.reduceEqDiff, Nat.reduceLT, Nat.reduceLeDiff, Nat.reduceAdd, Nat.reduceMul, Nat.reduceSub, Nat.reduceBEq, Int.reduceToNat, Int.reduceLT, Int.reduceLE, Int.reduceEq, Int.reduceNe, Int.reduceBEq, Int.reduceBNe, Int.reduceAdd, Int.reduceSub, Int.natCast_nonneg, Bool.false_eq_true, Bool.true_eq_false, eq_self]; simp) (by simp -implicitDefEqProofs only [go_sem, ↓reduceIte, Nat.reduceEqDiff, Nat.reduceLT, Nat.reduceLeDiff, Nat.reduceAdd, Nat.reduceMul, Nat.reduceSub, Nat.reduceBEq, Int.reduceToNat, Int.reduceLT, Int.reduceLE, Int.reduceEq, Int.reduceNe, Int.reduceBEq, Int.reduceBNe, Int.reduceAdd, Int.reduceSub, Int.natCast_nonneg, Bool.false_eq_true, Bool.true_eq_false, eq_self])) ?_
    intro k _ hk2 hR L4 hL4
    refine AW.seq_k fun K5 hK5 => ?_
    refine AW.seq_k fun K hK => AW.region (by kernel_rfl) ?_
    simp -implicitDefEqProofs only [go_sem, ↓reduceIte, Nat.reduceEqDiff, Nat.reduceLT, Nat.reduceLeDiff, Nat.reduceAdd, Nat.reduceMul, Nat.reduceSub, Nat.reduceBEq, Int.reduceToNat, Int.reduceLT, Int.reduceLE, Int.reduceEq, Int.reduceNe, Int.reduceBEq, Int.reduceBNe, Int.reduceAdd, Int.reduceSub, Int.natCast_nonneg, Bool.false_eq_true, Bool.true_eq_false, eq_self]
    refine hK _ ?_
    clear hK K
    refine AW.condS (by simp -implicitDefEqProofs only [go_sem, ↓reduceIte, Nat.reduceEqDiff, Nat.reduceLT, Nat.reduceLeDiff, Nat.reduceAdd, Nat.reduceMul, Nat.reduceSub, Nat.reduceBEq, Int.reduceToNat, Int.reduceLT, Int.reduceLE, Int.reduceEq, Int.reduceNe, Int.reduceBEq, Int.reduceBNe, Int.reduceAdd, Int.reduceSub, Int.natCast_nonneg, Bool.false_eq_true, Bool.true_eq_false, eq_self]; rfl) (fun h6 => ?_) (fun h6 => ?_)
    · -- true
      refine AW.skip ?_
      simp -implicitDefEqProofs only [go_sem, ↓reduceIte, Nat.reduceEqDiff, Nat.reduceLT, Nat.reduceLeDiff, Nat.reduceAdd, Nat.reduceMul, Nat.reduceSub, Nat.reduceBEq, Int.reduceToNat, Int.reduceLT, Int.reduceLE, Int.reduceEq, Int.reduceNe, Int.reduceBEq, Int.reduceBNe, Int.reduceAdd, Int.reduceSub, Int.natCast_nonneg, Bool.false_eq_true, Bool.true_eq_false, eq_self]
      refine hK5 _ ?_
      have hk1 : k < l.l.length := by simpa using h6
      have hkt : k < t.l.length := by omega
      have hg1 := List.getElem?_eq_getElem hk1
      have hg2 := List.getElem?_eq_getElem hkt
      have hm1 := hk _ (List.getElem_mem hkt)
      have hm2 := hk' _ (List.getElem_mem hk1)
      generalize hA : t.l[k] = A at hg2 hm1
      generalize hB : l.l[k] = B at hg1 hm2
      have hbad : ¬ A.v = B.v → V.bool false = .bool (t.l.map Nd.v == l.l.map Nd.v) := by
        intro hne
        refine congrArg _ (Eq.symm ?_)
        rw [beq_eq_false_iff_ne]
        intro e
        have e1 : (t.l.map Nd.v)[k]? = (l.l.map Nd.v)[k]? := by rw [e]
        rw [List.getElem?_map, List.getElem?_map, hg1, hg2] at e1
        simp at e1
        exact hne e1
      refine AW.seq_k fun K7 hK7 => ?_
      refine AW.block ?_
      by_cases e1 : A.op = B.op
      · by_cases e2 : A.pl = B.pl
        · refine AW.seq_k fun K hK => AW.regionT ⟨fun i => if i = 38 then .bool (A.kids.l == B.kids.l) else .top, fun _ => .pure⟩ (by kernel_rfl) hG (by kernel_rfl) (by kernel_rfl) ?_
          simp -implicitDefEqProofs only [go_sem, ↓reduceIte, Nat.reduceEqDiff, Nat.reduceLT, Nat.reduceLeDiff, Nat.reduceAdd, Nat.reduceMul, Nat.reduceSub, Nat.reduceBEq, Int.reduceToNat, Int.reduceLT, Int.reduceLE, Int.reduceEq, Int.reduceNe, Int.reduceBEq, Int.reduceBNe, Int.reduceAdd, Int.reduceSub, Int.natCast_nonneg, Bool.false_eq_true, Bool.true_eq_false, eq_self, hg1, hg2, bne_f e1, bne_f e2]
          refine ⟨⟨by kernel_rfl, ?_⟩, ?_⟩
          · simp -implicitDefEqProofs only [go_sem, ↓reduceIte, Nat.reduceEqDiff, Nat.reduceLT, Nat.reduceLeDiff, Nat.reduceAdd, Nat.reduceMul, Nat.reduceSub, Nat.reduceBEq, Int.reduceToNat, Int.reduceLT, Int.reduceLE, Int.reduceEq, Int.reduceNe, Int.reduceBEq, Int.reduceBNe, Int.reduceAdd, Int.reduceSub, Int.natCast_nonneg, Bool.false_eq_true, Bool.true_eq_false, eq_self]
            refine (sameInts_spec G hG _ _ A.kids B.kids hm1 hm2).mono ?_
            rintro _ _ rfl
            rfl
          refine hK _ ?_
          clear hK K
          refine AW.condS (by simp -implicitDefEqProofs only [go_sem, ↓reduceIte, Nat.reduceEqDiff, Nat.reduceLT, Nat.reduceLeDiff, Nat.reduceAdd, Nat.reduceMul, Nat.reduceSub, Nat.reduceBEq, Int.reduceToNat, Int.reduceLT, Int.reduceLE, Int.reduceEq, Int.reduceNe, Int.reduceBEq, Int.reduceBNe, Int.reduceAdd, Int.reduceSub, Int.natCast_nonneg, Bool.false_eq_true, Bool.true_eq_false, eq_self]; rfl) (fun h8 => ?_) (fun h8 => ?_)
          · refine AW.seq_k fun K hK => AW.region (by kernel_rfl) ?_
            simp -implicitDefEqProofs only [go_sem, ↓reduceIte, Nat.reduceEqDiff, Nat.reduceLT, Nat.reduceLeDiff, Nat.reduceAdd, Nat.reduceMul, Nat.reduceSub, Nat.reduceBEq, Int.reduceToNat, Int.reduceLT, Int.reduceLE, Int.reduceEq, Int.reduceNe, Int.reduceBEq, Int.reduceBNe, Int.reduceAdd, Int.reduceSub, Int.natCast_nonneg, Bool.false_eq_true, Bool.true_eq_false, eq_self]
            refine hK _ ?_
            clear hK K
            refine AW.ret ?_
            simp -implicitDefEqProofs only [go_sem, ↓reduceIte, Nat.reduceEqDiff, Nat.reduceLT, Nat.reduceLeDiff, Nat.reduceAdd, Nat.reduceMul, Nat.reduceSub, Nat.reduceBEq, Int.reduceToNat, Int.reduceLT, Int.reduceLE, Int.reduceEq, Int.reduceNe, Int.reduceBEq, Int.reduceBNe, Int.reduceAdd, Int.reduceSub, Int.natCast_nonneg, Bool.false_eq_true, Bool.true_eq_false, eq_self]
            refine endK_some ?_
            refine hbad fun e => ?_
            have := congrArg (fun x => x.2.2) e
            simp [Nd.v] at this
            simp [this] at h8
          · refine AW.skip ?_
            simp -implicitDefEqProofs only [go_sem, ↓reduceIte, Nat.reduceEqDiff, Nat.reduceLT, Nat.reduceLeDiff, Nat.reduceAdd, Nat.reduceMul, Nat.reduceSub, Nat.reduceBEq, Int.reduceToNat, Int.reduceLT, Int.reduceLE, Int.reduceEq, Int.reduceNe, Int.reduceBEq, Int.reduceBNe, Int.reduceAdd, Int.reduceSub, Int.natCast_nonneg, Bool.false_eq_true, Bool.true_eq_false, eq_self]
            refine hK7 _ ?_
            refine AW.region (by kernel_rfl) ?_
            simp -implicitDefEqProofs only [go_sem, ↓reduceIte, Nat.reduceEqDiff, Nat.reduceLT, Nat.reduceLeDiff, Nat.reduceAdd, Nat.reduceMul, Nat.reduceSub, Nat.reduceBEq, Int.reduceToNat, Int.reduceLT, Int.reduceLE, Int.reduceEq, Int.reduceNe, Int.reduceBEq, Int.reduceBNe, Int.reduceAdd, Int.reduceSub, Int.natCast_nonneg, Bool.false_eq_true, Bool.true_eq_false, eq_self]
            refine hL4 _ ⟨hk1, (), ?_, Weak.st (by simp -implicitDefEqProofs only [go_sem, ↓reduceIte, Nat.reduceEqDiff, Nat.reduceLT, Nat.reduceLeDiff, Nat.reduceAdd, Nat.reduceMul, Nat.reduceSub, Nat.reduceBEq, Int.reduceToNat, Int.reduceLT, Int.reduceLE, Int.reduceEq, Int.reduceNe, Int.reduceBEq, Int.reduceBNe, Int.reduceAdd, Int.reduceSub, Int.natCast_nonneg, Bool.false_eq_true, Bool.true_eq_false, eq_self]; exact congrArg _ (w64 (by omega) (by omega))) (by simp -implicitDefEqProofs only [go_sem, ↓reduceIte, Nat.reduceEqDiff, Nat.reduceLT, Nat.reduceLeDiff, Nat.reduceAdd, Nat.reduceMul, Nat.reduceSub, Nat.reduceBEq, Int.reduceToNat, Int.reduceLT, Int.reduceLE, Int.reduceEq, Int.reduceNe, Int.reduceBEq, Int.reduceBNe, Int.reduceAdd, Int.reduceSub, Int.natCast_nonneg, Bool.false_eq_true, Bool.true_eq_false, eq_self])⟩
            rw [List.take_succ_eq_append_getElem hk1, List.take_succ_eq_append_getElem hkt, List.map_append, List.map_append, hR, hA, hB]
            simp at h8
            simp [Nd.v, e1, e2, h8]
        · refine AW.seq_k fun K hK => AW.regionT ⟨fun _ => .top, fun _ => .pure⟩ (by kernel_rfl) hG (by kernel_rfl) (by kernel_rfl) ?_
          simp -implicitDefEqProofs only [go_sem, ↓reduceIte, Nat.reduceEqDiff, Nat.reduceLT, Nat.reduceLeDiff, Nat.reduceAdd, Nat.reduceMul, Nat.reduceSub, Nat.reduceBEq, Int.reduceToNat, Int.reduceLT, Int.reduceLE, Int.reduceEq, Int.reduceNe, Int.reduceBEq, Int.reduceBNe, Int.reduceAdd, Int.reduceSub, Int.natCast_nonneg, Bool.false_eq_true, Bool.true_eq_false, eq_self, hg1, hg2, bne_f e1, bne_t e2]
          refine hK _ ?_
          clear hK K
          refine AW.condS (by simp -implicitDefEqProofs only [go_sem, ↓reduceIte, Nat.reduceEqDiff, Nat.reduceLT, Nat.reduceLeDiff, Nat.reduceAdd, Nat.reduceMul, Nat.reduceSub, Nat.reduceBEq, Int.reduceToNat, Int.reduceLT, Int.reduceLE, Int.reduceEq, Int.reduceNe, Int.reduceBEq, Int.reduceBNe, Int.reduceAdd, Int.reduceSub, Int.natCast_nonneg, Bool.false_eq_true, Bool.true_eq_false, eq_self]; rfl) (fun h8 => ?_) (fun h8 => ?_)
          · refine AW.seq_k fun K hK => AW.region (by kernel_rfl) ?_
            simp -implicitDefEqProofs only [go_sem, ↓reduceIte, Nat.reduceEqDiff, Nat.reduceLT, Nat.reduceLeDiff, Nat.reduceAdd, Nat.reduceMul, Nat.reduceSub, Nat.reduceBEq, Int.reduceToNat, Int.reduceLT, Int.reduceLE, Int.reduceEq, Int.reduceNe, Int.reduceBEq, Int.reduceBNe, Int.reduceAdd, Int.reduceSub, Int.natCast_nonneg, Bool.false_eq_true, Bool.true_eq_false, eq_self]
            refine hK _ ?_
            clear hK K
            refine AW.ret ?_
            simp -implicitDefEqProofs only [go_sem, ↓reduceIte, Nat.reduceEqDiff, Nat.reduceLT, Nat.reduceLeDiff, Nat.reduceAdd, Nat.reduceMul, Nat.reduceSub, Nat.reduceBEq, Int.reduceToNat, Int.reduceLT, Int.reduceLE, Int.reduceEq, Int.reduceNe, Int.reduceBEq, Int.reduceBNe, Int.reduceAdd, Int.reduceSub, Int.natCast_nonneg, Bool.false_eq_true, Bool.true_eq_false, eq_self]
            refine endK_some ?_
            exact hbad fun e => e2 (congrArg (fun x => x.2.1) e)
          · simp at h8
      · refine AW.seq_k fun K hK => AW.regionT ⟨fun _ => .top, fun _ => .pure⟩ (by kernel_rfl) hG (by kernel_rfl) (by kernel_rfl) ?_
        simp -implicitDefEqProofs only [go_sem, ↓reduceIte, Nat.reduceEqDiff, Nat.reduceLT, Nat.reduceLeDiff, Nat.reduceAdd, Nat.reduceMul, Nat.reduceSub, Nat.reduceBEq, Int.reduceToNat, Int.reduceLT, Int.reduceLE, Int.reduceEq, Int.reduceNe, Int.reduceBEq, Int.reduceBNe, Int.reduceAdd, Int.reduceSub, Int.natCast_nonneg, Bool.false_eq_true, Bool.true_eq_false, eq_self, hg1, hg2, bne_t e1]
        refine hK _ ?_
        clear hK K
        refine AW.condS (by simp -implicitDefEqProofs only [go_sem, ↓reduceIte, Nat.reduceEqDiff, Nat.reduceLT, Nat.reduceLeDiff, Nat.reduceAdd, Nat.reduceMul, Nat.reduceSub, Nat.reduceBEq, Int.reduceToNat, Int.reduceLT, Int.reduceLE, Int.reduceEq, Int.reduceNe, Int.reduceBEq, Int.reduceBNe, Int.reduceAdd, Int.reduceSub, Int.natCast_nonneg, Bool.false_eq_true, Bool.true_eq_false, eq_self]; rfl) (fun h8 => ?_) (fun h8 => ?_)
        · refine AW.seq_k fun K hK => AW.region (by kernel_rfl) ?_
          simp -implicitDefEqProofs only [go_sem, ↓reduceIte, Nat.reduceEqDiff, Nat.reduceLT, Nat.reduceLeDiff, Nat.reduceAdd, Nat.reduceMul, Nat.reduceSub, Nat.reduceBEq, Int.reduceToNat, Int.reduceLT, Int.reduceLE, Int.reduceEq, Int.reduceNe, Int.reduceBEq, Int.reduceBNe, Int.reduceAdd, Int.reduceSub, Int.natCast_nonneg, Bool.false_eq_true, Bool.true_eq_false, eq_self]
          refine hK _ ?_
          clear hK K
          refine AW.ret ?_
          simp -implicitDefEqProofs only [go_sem, ↓reduceIte, Nat.reduceEqDiff, Nat.reduceLT, Nat.reduceLeDiff, Nat.reduceAdd, Nat.reduceMul, Nat.reduceSub, Nat.reduceBEq, Int.reduceToNat, Int.reduceLT, Int.reduceLE, Int.reduceEq, Int.reduceNe, Int.reduceBEq, Int.reduceBNe, Int.reduceAdd, Int.reduceSub, Int.natCast_nonneg, Bool.false_eq_true, Bool.true_eq_false, eq_self]
          refine endK_some ?_
          exact hbad fun e => e1 (congrArg (fun x => x.1) e)
        · simp at h8
    · -- false
      refine AW.exit ?_
      simp -implicitDefEqProofs only [go_sem, ↓reduceIte, Nat.reduceEqDiff, Nat.reduceLT, Nat.reduceLeDiff, Nat.reduceAdd, Nat.reduceMul, Nat.reduceSub, Nat.reduceBEq, Int.reduceToNat, Int.reduceLT, Int.reduceLE, Int.reduceEq, Int.reduceNe, Int.reduceBEq, Int.reduceBNe, Int.reduceAdd, Int.reduceSub, Int.natCast_nonneg, Bool.false_eq_true, Bool.true_eq_false, eq_self]
      refine hK3 _ ?_
      have hk1 : k = l.l.length := by simp at h6; omega
      refine AW.seq_k fun K hK => AW.region (by kernel_rfl) ?_
      simp -implicitDefEqProofs only [go_sem, ↓reduceIte, Nat.reduceEqDiff, Nat.reduceLT, Nat.reduceLeDiff, Nat.reduceAdd, Nat.reduceMul, Nat.reduceSub, Nat.reduceBEq, Int.reduceToNat, Int.reduceLT, Int.reduceLE, Int.reduceEq, Int.reduceNe, Int.reduceBEq, Int.reduceBNe, Int.reduceAdd, Int.reduceSub, Int.natCast_nonneg, Bool.false_eq_true, Bool.true_eq_false, eq_self]
      refine hK _ ?_
      clear hK K
      refine AW.ret ?_
      simp -implicitDefEqProofs only [go_sem, ↓reduceIte, Nat.reduceEqDiff, Nat.reduceLT, Nat.reduceLeDiff, Nat.reduceAdd, Nat.reduceMul, Nat.reduceSub, Nat.reduceBEq, Int.reduceToNat, Int.reduceLT, Int.reduceLE, Int.reduceEq, Int.reduceNe, Int.reduceBEq, Int.reduceBNe, Int.reduceAdd, Int.reduceSub, Int.natCast_nonneg, Bool.false_eq_true, Bool.true_eq_false, eq_self]
      refine endK_some ?_
      rw [hk1, List.take_length, ← hl, List.take_length] at hR
      simp [hR]
end Go.Hs
end

section
namespace Go.Hs
open Go.Proofs
set_option maxRecDepth 10000
def sameOp (l : List Nd) (n : Nd) (kid : Int) : Bool := match l[kid.toNat]? with | some m => m.op == n.op | none => false
/-- The nodes that are no parts yet, kept in a stack. -/
def rightGo (l : List Nd) : List Nd → Nat → List Int → Option (List Int)
  | [], _, opn => some opn
  | n :: r, i, opn =>
    if n.op ≥ 3 ∧ n.op ≤ 7 ∧ n.kids.l.length = 0 then rightGo l r (i + 1) (opn ++ [(i : Int)])
    else if (n.op ≠ 1 ∧ n.op ≠ 2) ∨ n.pl ≠ 0 ∨ n.kids.l.length < 2 ∨ opn.length < n.kids.l.length ∨ opn.drop (opn.length - n.kids.l.length) ≠ n.kids.l then none
    else if n.kids.l.any (sameOp l n) = true then none
    else rightGo l r (i + 1) (opn.take (opn.length - n.kids.l.length) ++ [(i : Int)])
def rightP (l : List Nd) : Bool := match rightGo l l 0 [] with | some opn => decide (opn.length < 2) | none => false
/- hopscotch/steps.Right -/
theorem right_spec (G : Nat → V) (hG : GOk G) (c1 c2 : Col) (t : Sl Nd) (ht : t.l.length < 1000000000) (hks : ∀ n ∈ t.l, n.kids.l.length < 1000000000) :
    Spec Try.prog G 16 [encTree c1 c2 t] hNone (fun v _ => v = .bool (rightP t.l)) := by
  refine Spec.of_code' 0 85 [.tmp 2] Try.func16 rfl rfl rfl rfl fun X => ?_
  refine AW.seq_k fun K hK => AW.region (by kernel_rfl) ?_
  simp -implicitDefEqProofs only [go_sem, ↓reduceIte, Nat.reduceEqDiff, Nat.reduceLT, Nat.reduceLeDiff, Nat.reduceAdd, Nat.reduceMul, Nat.reduceSub, Nat.reduceBEq, Int.reduceToNat, Int.reduceLT, Int.reduceLE, Int.reduceEq, Int.reduceNe, Int.reduceBEq, Int.reduceBNe, Int.reduceAdd, Int.reduceSub, Int.natCast_nonneg, Bool.false_eq_true, Bool.true_eq_false, eq_self]
  intro g1
  refine hK _ ?_
  clear hK K
  refine AW.seq_k fun K hK => AW.region (by kernel_rfl) ?_
  simp -implicitDefEqProofs only [go_sem, ↓reduceIte, Nat.reduceEqDiff, Nat.reduceLT, Nat.reduceLeDiff, Nat.reduceAdd, Nat.reduceMul, Nat.reduceSub, Nat.reduceBEq, Int.reduceToNat, Int.reduceLT, Int.reduceLE, Int.reduceEq, Int.reduceNe, Int.reduceBEq, Int.reduceBNe, Int.reduceAdd, Int.reduceSub, Int.natCast_nonneg, Bool.false_eq_true, Bool.true_eq_false, eq_self]
  refine hK _ ?_
  clear hK K
  refine AW.seq_k fun K1 hK1 => ?_
  refine AW.seq_k fun K hK => AW.region (by kernel_rfl) ?_
  simp -implicitDefEqProofs only [go_sem, ↓reduceIte, Nat.reduceEqDiff, Nat.reduceLT, Nat.reduceLeDiff, Nat.reduceAdd, Nat.reduceMul, Nat.reduceSub, Nat.reduceBEq, Int.reduceToNat, Int.reduceLT, Int.reduceLE, Int.reduceEq, Int.reduceNe, Int.reduceBEq, Int.reduceBNe, Int.reduceAdd, Int.reduceSub, Int.natCast_nonneg, Bool.false_eq_true, Bool.true_eq_false, eq_self]
  refine hK _ ?_
  clear hK K
  refine AW.block ?_
  refine AW.for t.l.length (fun k (x : (Nat × Nat) × List Int) => st [(1, .ptr 1 g1 0), (3, grown x.1.1 x.1.2 1 x.2), (8, encSl c1 3 (encNd c2) t), (9, .int .i64 t.l.length), (10, .int .i64 k)]
      [(1, .cells .new g1 0 [encSl c1 3 (encNd c2) t]), (x.1.1, grownO x.1.2 (V.int .i64) x.2)])
    (fun k x => (x.1.1 = 32 ∨ x.1.1 = 80) ∧ rightGo t.l (t.l.drop k) k x.2 = rightGo t.l t.l 0 [] ∧ x.2.length ≤ k ∧ ∀ y ∈ x.2, 0 ≤ y ∧ y < k) 0 ((32, 0), []) (Nat.zero_le _) ⟨.inl rfl, rfl, Nat.zero_le _, by simp⟩
    (Weak.st (by simp -implicitDefEqProofs only [go_sem, ↓reduceIte, Nat.reduceEqDiff, Nat.reduceLT, Nat.reduceLeDiff, Nat.reduceAdd, Nat.reduceMul, Nat.reduceSub, Nat.reduceBEq, Int.reduceToNat, Int.reduceLT, Int.reduceLE, Int.reduceEq, Int.reduceNe, Int.reduceBEq, Int.reduceBNe, Int.reduceAdd, Int.reduceSub, Int.natCast_nonneg, Bool.false_eq_true, Bool.true_eq_false, eq_self]; simp [grown]) (by simp -implicitDefEqProofs only [go_sem, ↓reduceIte, Nat.reduceEqDiff, Nat.reduceLT, Nat.reduceLeDiff, Nat.reduceAdd, Nat.reduceMul, Nat.reduceSub, Nat.reduceBEq, Int.reduceToNat, Int.reduceLT, Int.reduceLE, Int.reduceEq, Int.reduceNe, Int.reduceBEq, Int.reduceBNe, Int.reduceAdd, Int.reduceSub, Int.natCast_nonneg, Bool.false_eq_true, Bool.true_eq_false, eq_self]; rfl)) ?_
  rintro k ⟨⟨o, g⟩, opn⟩ hk ⟨ho, hR, hol, hov⟩ L2 hL2
  have ho : o = 32 ∨ o = 80 := ho
  have hol : opn.length ≤ k := hol
  have hov : ∀ y ∈ opn, 0 ≤ y ∧ y < (k : Int) := hov
  have ne1 : (1 = o) = False := by rcases ho with rfl | rfl <;> simp
  have ne2 : (5 = o) = False := by rcases ho with rfl | rfl <;> simp
  have ne3 : (o = 1) = False := by rcases ho with rfl | rfl <;> simp
  have ne4 : (o = 5) = False := by rcases ho with rfl | rfl <;> simp
  have ne5 : (o = 31) = False := by rcases ho with rfl | rfl <;> simp
  have ne6 : (31 = o) = False := by rcases ho with rfl | rfl <;> simp
  have ne7 : (o = 79) = False := by rcases ho with rfl | rfl <;> simp
  have ne8 : (79 = o) = False := by rcases ho with rfl | rfl <;> simp
  refine AW.seq_k fun K hK => AW.region (by kernel_rfl) ?_
  simp -implicitDefEqProofs only [go_sem, ↓reduceIte, Nat.reduceEqDiff, Nat.reduceLT, Nat.reduceLeDiff, Nat.reduceAdd, Nat.reduceMul, Nat.reduceSub, Nat.reduceBEq, Int.reduceToNat, Int.reduceLT, Int.reduceLE, Int.reduceEq, Int.reduceNe, Int.reduceBEq, Int.reduceBNe, Int.reduceAdd, Int.reduceSub, Int.natCast_nonneg, Bool.false_eq_true, Bool.true_eq_false, eq_self]
  refine hK _ ?_
  clear hK K
  refine AW.seq_k fun K3 hK3 => ?_
  refine AW.condS (by simp -implicitDefEqProofs only [go_sem, ↓reduceIte, Nat.reduceEqDiff, Nat.reduceLT, Nat.reduceLeDiff, Nat.reduceAdd, Nat.reduceMul, Nat.reduceSub, Nat.reduceBEq, Int.reduceToNat, Int.reduceLT, Int.reduceLE, Int.reduceEq, Int.reduceNe, Int.reduceBEq, Int.reduceBNe, Int.reduceAdd, Int.reduceSub, Int.natCast_nonneg, Bool.false_eq_true, Bool.true_eq_false, eq_self]; rfl) (fun h4 => ?_) (fun h4 => ?_)
  · -- true
    refine AW.skip ?_
    simp -implicitDefEqProofs only [go_sem, ↓reduceIte, Nat.reduceEqDiff, Nat.reduceLT, Nat.reduceLeDiff, Nat.reduceAdd, Nat.reduceMul, Nat.reduceSub, Nat.reduceBEq, Int.reduceToNat, Int.reduceLT, Int.reduceLE, Int.reduceEq, Int.reduceNe, Int.reduceBEq, Int.reduceBNe, Int.reduceAdd, Int.reduceSub, Int.natCast_nonneg, Bool.false_eq_true, Bool.true_eq_false, eq_self]
    refine hK3 _ ?_
    have hk1 : k < t.l.length := by simpa using h4
    have hgi := List.getElem?_eq_getElem hk1
    have hnm := List.getElem_mem hk1
    rw [List.drop_eq_getElem_cons hk1] at hR
    generalize t.l[k] = n at hgi hnm hR
    have hkl := hks n hnm
    rw [rightGo] at hR
    refine AW.seq_k fun K5 hK5 => ?_
    refine AW.block ?_
    refine AW.seq_k fun K hK => AW.region (by kernel_rfl) ?_
    simp -implicitDefEqProofs only [go_sem, ↓reduceIte, Nat.reduceEqDiff, Nat.reduceLT, Nat.reduceLeDiff, Nat.reduceAdd, Nat.reduceMul, Nat.reduceSub, Nat.reduceBEq, Int.reduceToNat, Int.reduceLT, Int.reduceLE, Int.reduceEq, Int.reduceNe, Int.reduceBEq, Int.reduceBNe, Int.reduceAdd, Int.reduceSub, Int.natCast_nonneg, Bool.false_eq_true, Bool.true_eq_false, eq_self, hgi, ne1, ne2]
    intro g5
    refine hK _ ?_
    clear hK K
    refine AW.seqJ (fun (_ : Unit) => st [(1, .ptr 1 g1 0), (3, grown o g 1 opn), (8, encSl c1 3 (encNd c2) t), (9, .int .i64 t.l.length), (10, .int .i64 k), (4, .int .i64 k), (5, .ptr 5 g5 0)] [(1, .cells .new g1 0 [encSl c1 3 (encNd c2) t]), (5, .cells .new g5 0 [.int .u8 n.op, .int .i64 n.pl, encSl c2 1 (V.int .i64) n.kids]), (o, grownO g (V.int .i64) opn)])
      (fun _ => ¬ (n.op ≥ 3 ∧ n.op ≤ 7 ∧ n.kids.l.length = 0)) (fun K6 hK6 => ?_) ?_
    · by_cases a1 : n.op ≥ 3
      · by_cases a2 : n.op ≤ 7
        · refine AW.seq_k fun K hK => AW.region (by kernel_rfl) ?_
          simp -implicitDefEqProofs only [go_sem, ↓reduceIte, Nat.reduceEqDiff, Nat.reduceLT, Nat.reduceLeDiff, Nat.reduceAdd, Nat.reduceMul, Nat.reduceSub, Nat.reduceBEq, Int.reduceToNat, Int.reduceLT, Int.reduceLE, Int.reduceEq, Int.reduceNe, Int.reduceBEq, Int.reduceBNe, Int.reduceAdd, Int.reduceSub, Int.natCast_nonneg, Bool.false_eq_true, Bool.true_eq_false, eq_self, decide_eq_true a1, decide_eq_true a2, ne1, ne2]
          refine hK _ ?_
          clear hK K
          refine AW.condS (by simp -implicitDefEqProofs only [go_sem, ↓reduceIte, Nat.reduceEqDiff, Nat.reduceLT, Nat.reduceLeDiff, Nat.reduceAdd, Nat.reduceMul, Nat.reduceSub, Nat.reduceBEq, Int.reduceToNat, Int.reduceLT, Int.reduceLE, Int.reduceEq, Int.reduceNe, Int.reduceBEq, Int.reduceBNe, Int.reduceAdd, Int.reduceSub, Int.natCast_nonneg, Bool.false_eq_true, Bool.true_eq_false, eq_self]; rfl) (fun h7 => ?_) (fun h7 => ?_)
          · have a3 : n.kids.l.length = 0 := by simp at h7; simp [h7]
            rw [if_pos ⟨a1, a2, a3⟩] at hR
            refine AW.seq_k fun K hK => AW.region (by kernel_rfl) ?_
            simp -implicitDefEqProofs only [go_sem, ↓reduceIte, Nat.reduceEqDiff, Nat.reduceLT, Nat.reduceLeDiff, Nat.reduceAdd, Nat.reduceMul, Nat.reduceSub, Nat.reduceBEq, Int.reduceToNat, Int.reduceLT, Int.reduceLE, Int.reduceEq, Int.reduceNe, Int.reduceBEq, Int.reduceBNe, Int.reduceAdd, Int.reduceSub, Int.natCast_nonneg, Bool.false_eq_true, Bool.true_eq_false, eq_self, ne1, ne2]
            intro g31
            refine app_grown2 (f := V.int .i64) (l := opn) (l2 := [(k : Int)]) (o := o) (g := g) (fun _ => rfl) rfl rfl rfl (by simp -implicitDefEqProofs only [go_sem, ↓reduceIte, Nat.reduceEqDiff, Nat.reduceLT, Nat.reduceLeDiff, Nat.reduceAdd, Nat.reduceMul, Nat.reduceSub, Nat.reduceBEq, Int.reduceToNat, Int.reduceLT, Int.reduceLE, Int.reduceEq, Int.reduceNe, Int.reduceBEq, Int.reduceBNe, Int.reduceAdd, Int.reduceSub, Int.natCast_nonneg, Bool.false_eq_true, Bool.true_eq_false, eq_self, ne3, ne4, ne5]) (roomOk_of (by omega) (by simp; omega)) fun o2 g2 ho2 => ?_
            have ho2' : o2 = 32 ∨ o2 = 80 := by rcases ho2 with rfl | rfl; · { exact ho }; · exact .inl rfl
            simp -implicitDefEqProofs only [go_sem, ↓reduceIte, Nat.reduceEqDiff, Nat.reduceLT, Nat.reduceLeDiff, Nat.reduceAdd, Nat.reduceMul, Nat.reduceSub, Nat.reduceBEq, Int.reduceToNat, Int.reduceLT, Int.reduceLE, Int.reduceEq, Int.reduceNe, Int.reduceBEq, Int.reduceBNe, Int.reduceAdd, Int.reduceSub, Int.natCast_nonneg, Bool.false_eq_true, Bool.true_eq_false, eq_self]
            refine hK _ ?_
            clear hK K
            refine AW.exit ?_
            simp -implicitDefEqProofs only [go_sem, ↓reduceIte, Nat.reduceEqDiff, Nat.reduceLT, Nat.reduceLeDiff, Nat.reduceAdd, Nat.reduceMul, Nat.reduceSub, Nat.reduceBEq, Int.reduceToNat, Int.reduceLT, Int.reduceLE, Int.reduceEq, Int.reduceNe, Int.reduceBEq, Int.reduceBNe, Int.reduceAdd, Int.reduceSub, Int.natCast_nonneg, Bool.false_eq_true, Bool.true_eq_false, eq_self]
            refine hK5 _ ?_
            refine AW.region (by kernel_rfl) ?_
            simp -implicitDefEqProofs only [go_sem, ↓reduceIte, Nat.reduceEqDiff, Nat.reduceLT, Nat.reduceLeDiff, Nat.reduceAdd, Nat.reduceMul, Nat.reduceSub, Nat.reduceBEq, Int.reduceToNat, Int.reduceLT, Int.reduceLE, Int.reduceEq, Int.reduceNe, Int.reduceBEq, Int.reduceBNe, Int.reduceAdd, Int.reduceSub, Int.natCast_nonneg, Bool.false_eq_true, Bool.true_eq_false, eq_self]
            have me1 : (1 = o2) = False := by rcases ho2' with rfl | rfl <;> simp
            refine hL2 _ ⟨hk1, ((o2, g2), opn ++ [(k : Int)]), ⟨ho2', hR, by simp; omega, ?_⟩, Weak.st (by simp -implicitDefEqProofs only [go_sem, ↓reduceIte, Nat.reduceEqDiff, Nat.reduceLT, Nat.reduceLeDiff, Nat.reduceAdd, Nat.reduceMul, Nat.reduceSub, Nat.reduceBEq, Int.reduceToNat, Int.reduceLT, Int.reduceLE, Int.reduceEq, Int.reduceNe, Int.reduceBEq, Int.reduceBNe, Int.reduceAdd, Int.reduceSub, Int.natCast_nonneg, Bool.false_eq_true, Bool.true_eq_false, eq_self]; exact congrArg _ (w64 (by omega) (by omega))) (by simp -implicitDefEqProofs only [go_sem, ↓reduceIte, Nat.reduceEqDiff, Nat.reduceLT, Nat.reduceLeDiff, Nat.reduceAdd, Nat.reduceMul, Nat.reduceSub, Nat.reduceBEq, Int.reduceToNat, Int.reduceLT, Int.reduceLE, Int.reduceEq, Int.reduceNe, Int.reduceBEq, Int.reduceBNe, Int.reduceAdd, Int.reduceSub, Int.natCast_nonneg, Bool.false_eq_true, Bool.true_eq_false, eq_self, me1])⟩
            intro y hy
            simp only [List.mem_append, List.mem_singleton] at hy
            rcases hy with hy | rfl
            · have := hov y hy
              omega
            · omega
          · have a3 : ¬ n.kids.l.length = 0 := by simp at h7; simp [h7]
            refine AW.skip ?_
            simp -implicitDefEqProofs only [go_sem, ↓reduceIte, Nat.reduceEqDiff, Nat.reduceLT, Nat.reduceLeDiff, Nat.reduceAdd, Nat.reduceMul, Nat.reduceSub, Nat.reduceBEq, Int.reduceToNat, Int.reduceLT, Int.reduceLE, Int.reduceEq, Int.reduceNe, Int.reduceBEq, Int.reduceBNe, Int.reduceAdd, Int.reduceSub, Int.natCast_nonneg, Bool.false_eq_true, Bool.true_eq_false, eq_self]
            exact hK6 _ () (fun e => a3 e.2.2) (Weak.st (by simp -implicitDefEqProofs only [go_sem, ↓reduceIte, Nat.reduceEqDiff, Nat.reduceLT, Nat.reduceLeDiff, Nat.reduceAdd, Nat.reduceMul, Nat.reduceSub, Nat.reduceBEq, Int.reduceToNat, Int.reduceLT, Int.reduceLE, Int.reduceEq, Int.reduceNe, Int.reduceBEq, Int.reduceBNe, Int.reduceAdd, Int.reduceSub, Int.natCast_nonneg, Bool.false_eq_true, Bool.true_eq_false, eq_self]) (by simp -implicitDefEqProofs only [go_sem, ↓reduceIte, Nat.reduceEqDiff, Nat.reduceLT, Nat.reduceLeDiff, Nat.reduceAdd, Nat.reduceMul, Nat.reduceSub, Nat.reduceBEq, Int.reduceToNat, Int.reduceLT, Int.reduceLE, Int.reduceEq, Int.reduceNe, Int.reduceBEq, Int.reduceBNe, Int.reduceAdd, Int.reduceSub, Int.natCast_nonneg, Bool.false_eq_true, Bool.true_eq_false, eq_self, ne1, ne2, ne3, ne4]))
        · refine AW.seq_k fun K hK => AW.region (by kernel_rfl) ?_
          simp -implicitDefEqProofs only [go_sem, ↓reduceIte, Nat.reduceEqDiff, Nat.reduceLT, Nat.reduceLeDiff, Nat.reduceAdd, Nat.reduceMul, Nat.reduceSub, Nat.reduceBEq, Int.reduceToNat, Int.reduceLT, Int.reduceLE, Int.reduceEq, Int.reduceNe, Int.reduceBEq, Int.reduceBNe, Int.reduceAdd, Int.reduceSub, Int.natCast_nonneg, Bool.false_eq_true, Bool.true_eq_false, eq_self, decide_eq_true a1, decide_eq_false a2, ne1, ne2]
          refine hK _ ?_
          clear hK K
          refine AW.condS (by simp -implicitDefEqProofs only [go_sem, ↓reduceIte, Nat.reduceEqDiff, Nat.reduceLT, Nat.reduceLeDiff, Nat.reduceAdd, Nat.reduceMul, Nat.reduceSub, Nat.reduceBEq, Int.reduceToNat, Int.reduceLT, Int.reduceLE, Int.reduceEq, Int.reduceNe, Int.reduceBEq, Int.reduceBNe, Int.reduceAdd, Int.reduceSub, Int.natCast_nonneg, Bool.false_eq_true, Bool.true_eq_false, eq_self]; rfl) (fun h7 => ?_) (fun h7 => ?_)
          · simp at h7
          · refine AW.skip ?_
            simp -implicitDefEqProofs only [go_sem, ↓reduceIte, Nat.reduceEqDiff, Nat.reduceLT, Nat.reduceLeDiff, Nat.reduceAdd, Nat.reduceMul, Nat.reduceSub, Nat.reduceBEq, Int.reduceToNat, Int.reduceLT, Int.reduceLE, Int.reduceEq, Int.reduceNe, Int.reduceBEq, Int.reduceBNe, Int.reduceAdd, Int.reduceSub, Int.natCast_nonneg, Bool.false_eq_true, Bool.true_eq_false, eq_self]
            exact hK6 _ () (fun e => a2 e.2.1) (Weak.st (by simp -implicitDefEqProofs only [go_sem, ↓reduceIte, Nat.reduceEqDiff, Nat.reduceLT, Nat.reduceLeDiff, Nat.reduceAdd, Nat.reduceMul, Nat.reduceSub, Nat.reduceBEq, Int.reduceToNat, Int.reduceLT, Int.reduceLE, Int.reduceEq, Int.reduceNe, Int.reduceBEq, Int.reduceBNe, Int.reduceAdd, Int.reduceSub, Int.natCast_nonneg, Bool.false_eq_true, Bool.true_eq_false, eq_self]) (by simp -implicitDefEqProofs only [go_sem, ↓reduceIte, Nat.reduceEqDiff, Nat.reduceLT, Nat.reduceLeDiff, Nat.reduceAdd, Nat.reduceMul, Nat.reduceSub, Nat.reduceBEq, Int.reduceToNat, Int.reduceLT, Int.reduceLE, Int.reduceEq, Int.reduceNe, Int.reduceBEq, Int.reduceBNe, Int.reduceAdd, Int.reduceSub, Int.natCast_nonneg, Bool.false_eq_true, Bool.true_eq_false, eq_self, ne1, ne2, ne3, ne4]))
      · refine AW.seq_k fun K hK => AW.region (by kernel_rfl) ?_
        simp -implicitDefEqProofs only [go_sem, ↓reduceIte, Nat.reduceEqDiff, Nat.reduceLT, Nat.reduceLeDiff, Nat.reduceAdd, Nat.reduceMul, Nat.reduceSub, Nat.reduceBEq, Int.reduceToNat, Int.reduceLT, Int.reduceLE, Int.reduceEq, Int.reduceNe, Int.reduceBEq, Int.reduceBNe, Int.reduceAdd, Int.reduceSub, Int.natCast_nonneg, Bool.false_eq_true, Bool.true_eq_false, eq_self, decide_eq_false a1, ne1, ne2]
        refine hK _ ?_
        clear hK K
        refine AW.condS (by simp -implicitDefEqProofs only [go_sem, ↓reduceIte, Nat.reduceEqDiff, Nat.reduceLT, Nat.reduceLeDiff, Nat.reduceAdd, Nat.reduceMul, Nat.reduceSub, Nat.reduceBEq, Int.reduceToNat, Int.reduceLT, Int.reduceLE, Int.reduceEq, Int.reduceNe, Int.reduceBEq, Int.reduceBNe, Int.reduceAdd, Int.reduceSub, Int.natCast_nonneg, Bool.false_eq_true, Bool.true_eq_false, eq_self]; rfl) (fun h7 => ?_) (fun h7 => ?_)
        · simp at h7
        · refine AW.skip ?_
          simp -implicitDefEqProofs only [go_sem, ↓reduceIte, Nat.reduceEqDiff, Nat.reduceLT, Nat.reduceLeDiff, Nat.reduceAdd, Nat.reduceMul, Nat.reduceSub, Nat.reduceBEq, Int.reduceToNat, Int.reduceLT, Int.reduceLE, Int.reduceEq, Int.reduceNe, Int.reduceBEq, Int.reduceBNe, Int.reduceAdd, Int.reduceSub, Int.natCast_nonneg, Bool.false_eq_true, Bool.true_eq_false, eq_self]
          exact hK6 _ () (fun e => a1 e.1) (Weak.st (by simp -implicitDefEqProofs only [go_sem, ↓reduceIte, Nat.reduceEqDiff, Nat.reduceLT, Nat.reduceLeDiff, Nat.reduceAdd, Nat.reduceMul, Nat.reduceSub, Nat.reduceBEq, Int.reduceToNat, Int.reduceLT, Int.reduceLE, Int.reduceEq, Int.reduceNe, Int.reduceBEq, Int.reduceBNe, Int.reduceAdd, Int.reduceSub, Int.natCast_nonneg, Bool.false_eq_true, Bool.true_eq_false, eq_self]) (by simp -implicitDefEqProofs only [go_sem, ↓reduceIte, Nat.reduceEqDiff, Nat.reduceLT, Nat.reduceLeDiff, Nat.reduceAdd, Nat.reduceMul, Nat.reduceSub, Nat.reduceBEq, Int.reduceToNat, Int.reduceLT, Int.reduceLE, Int.reduceEq, Int.reduceNe, Int.reduceBEq, Int.reduceBNe, Int.reduceAdd, Int.reduceSub, Int.natCast_nonneg, Bool.false_eq_true, Bool.true_eq_false, eq_self, ne1, ne2, ne3, ne4]))
    · intro _ hnl
      rw [if_neg hnl] at hR
      have hw : IntKind.i64.wrap ((opn.length : Int) - (n.kids.l.length : Int)) = (opn.length : Int) - (n.kids.l.length : Int) := w64 (by omega) (by omega)
      refine AW.seq_k fun K hK => AW.region (by kernel_rfl) ?_
      simp -implicitDefEqProofs only [go_sem, ↓reduceIte, Nat.reduceEqDiff, Nat.reduceLT, Nat.reduceLeDiff, Nat.reduceAdd, Nat.reduceMul, Nat.reduceSub, Nat.reduceBEq, Int.reduceToNat, Int.reduceLT, Int.reduceLE, Int.reduceEq, Int.reduceNe, Int.reduceBEq, Int.reduceBNe, Int.reduceAdd, Int.reduceSub, Int.natCast_nonneg, Bool.false_eq_true, Bool.true_eq_false, eq_self, hw, ne1, ne2]
      refine hK _ ?_
      clear hK K
      refine AW.seqJ (fun (_ : Unit) => st [(1, .ptr 1 g1 0), (3, grown o g 1 opn), (8, encSl c1 3 (encNd c2) t), (9, .int .i64 t.l.length), (10, .int .i64 k), (4, .int .i64 k), (5, .ptr 5 g5 0), (6, .int .i64 ((opn.length - n.kids.l.length : Nat) : Int))] [(1, .cells .new g1 0 [encSl c1 3 (encNd c2) t]), (5, .cells .new g5 0 [.int .u8 n.op, .int .i64 n.pl, encSl c2 1 (V.int .i64) n.kids]), (o, grownO g (V.int .i64) opn)])
        (fun _ => ¬ ((n.op ≠ 1 ∧ n.op ≠ 2) ∨ n.pl ≠ 0 ∨ n.kids.l.length < 2 ∨ opn.length < n.kids.l.length ∨ opn.drop (opn.length - n.kids.l.length) ≠ n.kids.l)) (fun K8 hK8 => ?_) ?_
      · have bad : ((n.op ≠ 1 ∧ n.op ≠ 2) ∨ n.pl ≠ 0 ∨ n.kids.l.length < 2 ∨ opn.length < n.kids.l.length ∨ opn.drop (opn.length - n.kids.l.length) ≠ n.kids.l) → V.bool false = V.bool (rightP t.l) := by
          intro hb
          rw [if_pos hb] at hR
          rw [rightP, ← hR]
        have two : n.op = 1 ∨ n.op = 2 ∨ (n.op ≠ 1 ∧ n.op ≠ 2) := by omega
        rcases two with a1 | a1 | ⟨a1, a2⟩
        · have hnot : ¬ (n.op ≠ 1 ∧ n.op ≠ 2) := by omega
          by_cases b2 : n.pl = 0
          · by_cases b3 : n.kids.l.length < 2
            · refine AW.seq_k fun K hK => AW.regionT ⟨fun _ => .top, fun _ => .pure⟩ (by kernel_rfl) hG (by kernel_rfl) (by kernel_rfl) ?_
              simp -implicitDefEqProofs only [go_sem, ↓reduceIte, Nat.reduceEqDiff, Nat.reduceLT, Nat.reduceLeDiff, Nat.reduceAdd, Nat.reduceMul, Nat.reduceSub, Nat.reduceBEq, Int.reduceToNat, Int.reduceLT, Int.reduceLE, Int.reduceEq, Int.reduceNe, Int.reduceBEq, Int.reduceBNe, Int.reduceAdd, Int.reduceSub, Int.natCast_nonneg, Bool.false_eq_true, Bool.true_eq_false, eq_self, bne_f a1, bne_f b2, decide_eq_true (show (n.kids.l.length : Int) < 2 by omega), ne1, ne2]
              refine hK _ ?_
              clear hK K
              refine AW.condS (by simp -implicitDefEqProofs only [go_sem, ↓reduceIte, Nat.reduceEqDiff, Nat.reduceLT, Nat.reduceLeDiff, Nat.reduceAdd, Nat.reduceMul, Nat.reduceSub, Nat.reduceBEq, Int.reduceToNat, Int.reduceLT, Int.reduceLE, Int.reduceEq, Int.reduceNe, Int.reduceBEq, Int.reduceBNe, Int.reduceAdd, Int.reduceSub, Int.natCast_nonneg, Bool.false_eq_true, Bool.true_eq_false, eq_self]; rfl) (fun h8 => ?_) (fun h8 => ?_)
              · refine AW.seq_k fun K hK => AW.region (by kernel_rfl) ?_
                simp -implicitDefEqProofs only [go_sem, ↓reduceIte, Nat.reduceEqDiff, Nat.reduceLT, Nat.reduceLeDiff, Nat.reduceAdd, Nat.reduceMul, Nat.reduceSub, Nat.reduceBEq, Int.reduceToNat, Int.reduceLT, Int.reduceLE, Int.reduceEq, Int.reduceNe, Int.reduceBEq, Int.reduceBNe, Int.reduceAdd, Int.reduceSub, Int.natCast_nonneg, Bool.false_eq_true, Bool.true_eq_false, eq_self]
                refine hK _ ?_
                clear hK K
                refine AW.ret ?_
                simp -implicitDefEqProofs only [go_sem, ↓reduceIte, Nat.reduceEqDiff, Nat.reduceLT, Nat.reduceLeDiff, Nat.reduceAdd, Nat.reduceMul, Nat.reduceSub, Nat.reduceBEq, Int.reduceToNat, Int.reduceLT, Int.reduceLE, Int.reduceEq, Int.reduceNe, Int.reduceBEq, Int.reduceBNe, Int.reduceAdd, Int.reduceSub, Int.natCast_nonneg, Bool.false_eq_true, Bool.true_eq_false, eq_self]
                refine endK_some ?_
                exact bad (.inr (.inr (.inl b3)))
              · simp at h8
            · by_cases b4 : opn.length < n.kids.l.length
              · refine AW.seq_k fun K hK => AW.regionT ⟨fun _ => .top, fun _ => .pure⟩ (by kernel_rfl) hG (by kernel_rfl) (by kernel_rfl) ?_
                simp -implicitDefEqProofs only [go_sem, ↓reduceIte, Nat.reduceEqDiff, Nat.reduceLT, Nat.reduceLeDiff, Nat.reduceAdd, Nat.reduceMul, Nat.reduceSub, Nat.reduceBEq, Int.reduceToNat, Int.reduceLT, Int.reduceLE, Int.reduceEq, Int.reduceNe, Int.reduceBEq, Int.reduceBNe, Int.reduceAdd, Int.reduceSub, Int.natCast_nonneg, Bool.false_eq_true, Bool.true_eq_false, eq_self, bne_f a1, bne_f b2, decide_eq_false (show ¬ (n.kids.l.length : Int) < 2 by omega), decide_eq_true (show (opn.length : Int) - (n.kids.l.length : Int) < 0 by omega), ne1, ne2]
                refine hK _ ?_
                clear hK K
                refine AW.condS (by simp -implicitDefEqProofs only [go_sem, ↓reduceIte, Nat.reduceEqDiff, Nat.reduceLT, Nat.reduceLeDiff, Nat.reduceAdd, Nat.reduceMul, Nat.reduceSub, Nat.reduceBEq, Int.reduceToNat, Int.reduceLT, Int.reduceLE, Int.reduceEq, Int.reduceNe, Int.reduceBEq, Int.reduceBNe, Int.reduceAdd, Int.reduceSub, Int.natCast_nonneg, Bool.false_eq_true, Bool.true_eq_false, eq_self]; rfl) (fun h8 => ?_) (fun h8 => ?_)
                · refine AW.seq_k fun K hK => AW.region (by kernel_rfl) ?_
                  simp -implicitDefEqProofs only [go_sem, ↓reduceIte, Nat.reduceEqDiff, Nat.reduceLT, Nat.reduceLeDiff, Nat.reduceAdd, Nat.reduceMul, Nat.reduceSub, Nat.reduceBEq, Int.reduceToNat, Int.reduceLT, Int.reduceLE, Int.reduceEq, Int.reduceNe, Int.reduceBEq, Int.reduceBNe, Int.reduceAdd, Int.reduceSub, Int.natCast_nonneg, Bool.false_eq_true, Bool.true_eq_false, eq_self]
                  refine hK _ ?_
                  clear hK K
                  refine AW.ret ?_
                  simp -implicitDefEqProofs only [go_sem, ↓reduceIte, Nat.reduceEqDiff, Nat.reduceLT, Nat.reduceLeDiff, Nat.reduceAdd, Nat.reduceMul, Nat.reduceSub, Nat.reduceBEq, Int.reduceToNat, Int.reduceLT, Int.reduceLE, Int.reduceEq, Int.reduceNe, Int.reduceBEq, Int.reduceBNe, Int.reduceAdd, Int.reduceSub, Int.natCast_nonneg, Bool.false_eq_true, Bool.true_eq_false, eq_self]
                  refine endK_some ?_
                  exact bad (.inr (.inr (.inr (.inl b4))))
                · simp at h8
              · have hd : (opn.length : Int) - (n.kids.l.length : Int) = ((opn.length - n.kids.l.length : Nat) : Int) := by omega
                have hkk : opn.length - n.kids.l.length + n.kids.l.length = opn.length := by omega
                have hlt : opn.length - n.kids.l.length < opn.length := by omega
                generalize hkd : opn.length - n.kids.l.length = kk at hd hkk hlt
                have hne : opn ≠ [] := by intro e; rw [e] at hlt; simp at hlt
                have hsl : (if kk = 0 then V.msl o g 0 opn.length 1 else if kk < opn.length then V.msl o g (kk * 1) (opn.length - kk) 1 else V.slice .any false 1 []) = .msl o g (kk * 1) n.kids.l.length 1 := by
                  by_cases h0 : kk = 0
                  · rw [if_pos h0]; congr 1 <;> omega
                  · rw [if_neg h0, if_pos hlt]; congr 1 <;> omega
                refine AW.seq_k fun K hK => AW.regionT ⟨fun i => if i = 29 then .bool (opn.drop kk == n.kids.l) else .top, fun i => if i = 29 then .lend else .pure⟩ (by kernel_rfl) hG (by kernel_rfl) (by kernel_rfl) ?_
                simp -implicitDefEqProofs only [go_sem, ↓reduceIte, Nat.reduceEqDiff, Nat.reduceLT, Nat.reduceLeDiff, Nat.reduceAdd, Nat.reduceMul, Nat.reduceSub, Nat.reduceBEq, Int.reduceToNat, Int.reduceLT, Int.reduceLE, Int.reduceEq, Int.reduceNe, Int.reduceBEq, Int.reduceBNe, Int.reduceAdd, Int.reduceSub, Int.natCast_nonneg, Bool.false_eq_true, Bool.true_eq_false, eq_self, bne_f a1, bne_f b2, decide_eq_false (show ¬ (n.kids.l.length : Int) < 2 by omega), hd, decide_eq_false (show ¬ ((kk : Nat) : Int) < 0 by omega), grown_ne o g 1 hne, Nat.le_of_lt hlt, Nat.le_refl, and_self, hsl, ne1, ne2]
                have hdt : (opn.drop kk).take n.kids.l.length = opn.drop kk := by rw [List.take_of_length_le]; rw [List.length_drop]; omega
                refine ⟨BorC.of [encSl .old 1 (V.int .i64) (.mk false ((opn.drop kk).take n.kids.l.length)), encSl c2.ent 1 (V.int .i64) n.kids] (by kernel_rfl) ⟨?_, Rd.im (Im.ints _) (by simp -implicitDefEqProofs only [go_sem, ↓reduceIte, Nat.reduceEqDiff, Nat.reduceLT, Nat.reduceLeDiff, Nat.reduceAdd, Nat.reduceMul, Nat.reduceSub, Nat.reduceBEq, Int.reduceToNat, Int.reduceLT, Int.reduceLE, Int.reduceEq, Int.reduceNe, Int.reduceBEq, Int.reduceBNe, Int.reduceAdd, Int.reduceSub, Int.natCast_nonneg, Bool.false_eq_true, Bool.true_eq_false, eq_self]), trivial⟩ ((sEqual_spec G hG _ _ (.mk false ((opn.drop kk).take n.kids.l.length)) n.kids (by simp [Sl.l]; omega)).mono ?_), ?_⟩
                · exact Rd.msl (g := g) (fz := 0) (c := .new) (f := V.int .i64) (by simp -implicitDefEqProofs only [go_sem, ↓reduceIte, Nat.reduceEqDiff, Nat.reduceLT, Nat.reduceLeDiff, Nat.reduceAdd, Nat.reduceMul, Nat.reduceSub, Nat.reduceBEq, Int.reduceToNat, Int.reduceLT, Int.reduceLE, Int.reduceEq, Int.reduceNe, Int.reduceBEq, Int.reduceBNe, Int.reduceAdd, Int.reduceSub, Int.natCast_nonneg, Bool.false_eq_true, Bool.true_eq_false, eq_self, ne3, ne4]; exact grownO_ne _ _ hne) (fun _ => rfl) (fun x y hy => by simp [V.cells] at hy; subst hy; exact .int _ _) (fun _ => rfl) (by omega)
                · rintro _ _ rfl
                  exact ⟨.bool _, by rw [Sl.l_mk, hdt]⟩
                refine hK _ ?_
                clear hK K
                refine AW.condS (by simp -implicitDefEqProofs only [go_sem, ↓reduceIte, Nat.reduceEqDiff, Nat.reduceLT, Nat.reduceLeDiff, Nat.reduceAdd, Nat.reduceMul, Nat.reduceSub, Nat.reduceBEq, Int.reduceToNat, Int.reduceLT, Int.reduceLE, Int.reduceEq, Int.reduceNe, Int.reduceBEq, Int.reduceBNe, Int.reduceAdd, Int.reduceSub, Int.natCast_nonneg, Bool.false_eq_true, Bool.true_eq_false, eq_self]; rfl) (fun h8 => ?_) (fun h8 => ?_)
                · refine AW.seq_k fun K hK => AW.region (by kernel_rfl) ?_
                  simp -implicitDefEqProofs only [go_sem, ↓reduceIte, Nat.reduceEqDiff, Nat.reduceLT, Nat.reduceLeDiff, Nat.reduceAdd, Nat.reduceMul, Nat.reduceSub, Nat.reduceBEq, Int.reduceToNat, Int.reduceLT, Int.reduceLE, Int.reduceEq, Int.reduceNe, Int.reduceBEq, Int.reduceBNe, Int.reduceAdd, Int.reduceSub, Int.natCast_nonneg, Bool.false_eq_true, Bool.true_eq_false, eq_self]
                  refine hK _ ?_
                  clear hK K
                  refine AW.ret ?_
                  simp -implicitDefEqProofs only [go_sem, ↓reduceIte, Nat.reduceEqDiff, Nat.reduceLT, Nat.reduceLeDiff, Nat.reduceAdd, Nat.reduceMul, Nat.reduceSub, Nat.reduceBEq, Int.reduceToNat, Int.reduceLT, Int.reduceLE, Int.reduceEq, Int.reduceNe, Int.reduceBEq, Int.reduceBNe, Int.reduceAdd, Int.reduceSub, Int.natCast_nonneg, Bool.false_eq_true, Bool.true_eq_false, eq_self]
                  refine endK_some ?_
                  refine bad (.inr (.inr (.inr (.inr ?_))))
                  intro e
                  rw [hkd] at e
                  rw [e] at h8
                  simp at h8
                · refine AW.skip ?_
                  simp -implicitDefEqProofs only [go_sem, ↓reduceIte, Nat.reduceEqDiff, Nat.reduceLT, Nat.reduceLeDiff, Nat.reduceAdd, Nat.reduceMul, Nat.reduceSub, Nat.reduceBEq, Int.reduceToNat, Int.reduceLT, Int.reduceLE, Int.reduceEq, Int.reduceNe, Int.reduceBEq, Int.reduceBNe, Int.reduceAdd, Int.reduceSub, Int.natCast_nonneg, Bool.false_eq_true, Bool.true_eq_false, eq_self]
                  refine hK8 _ () ?_ (Weak.st (by simp -implicitDefEqProofs only [go_sem, ↓reduceIte, Nat.reduceEqDiff, Nat.reduceLT, Nat.reduceLeDiff, Nat.reduceAdd, Nat.reduceMul, Nat.reduceSub, Nat.reduceBEq, Int.reduceToNat, Int.reduceLT, Int.reduceLE, Int.reduceEq, Int.reduceNe, Int.reduceBEq, Int.reduceBNe, Int.reduceAdd, Int.reduceSub, Int.natCast_nonneg, Bool.false_eq_true, Bool.true_eq_false, eq_self]; exact ⟨(grown_ne o g 1 hne).symm, by rw [hkd]⟩) (by simp -implicitDefEqProofs only [go_sem, ↓reduceIte, Nat.reduceEqDiff, Nat.reduceLT, Nat.reduceLeDiff, Nat.reduceAdd, Nat.reduceMul, Nat.reduceSub, Nat.reduceBEq, Int.reduceToNat, Int.reduceLT, Int.reduceLE, Int.reduceEq, Int.reduceNe, Int.reduceBEq, Int.reduceBNe, Int.reduceAdd, Int.reduceSub, Int.natCast_nonneg, Bool.false_eq_true, Bool.true_eq_false, eq_self, ne1, ne2, ne3, ne4]))
                  rw [hkd]
                  simp at h8
                  rintro (h | h | h | h | h)
                  · exact hnot h
                  · exact h b2
                  · exact b3 h
                  · exact b4 h
                  · exact h h8
          · refine AW.seq_k fun K hK => AW.regionT ⟨fun _ => .top, fun _ => .pure⟩ (by kernel_rfl) hG (by kernel_rfl) (by kernel_rfl) ?_
            simp -implicitDefEqProofs only [go_sem, ↓reduceIte, Nat.reduceEqDiff, Nat.reduceLT, Nat.reduceLeDiff, Nat.reduceAdd, Nat.reduceMul, Nat.reduceSub, Nat.reduceBEq, Int.reduceToNat, Int.reduceLT, Int.reduceLE, Int.reduceEq, Int.reduceNe, Int.reduceBEq, Int.reduceBNe, Int.reduceAdd, Int.reduceSub, Int.natCast_nonneg, Bool.false_eq_true, Bool.true_eq_false, eq_self, bne_f a1, bne_t b2, ne1, ne2]
            refine hK _ ?_
            clear hK K
            refine AW.condS (by simp -implicitDefEqProofs only [go_sem, ↓reduceIte, Nat.reduceEqDiff, Nat.reduceLT, Nat.reduceLeDiff, Nat.reduceAdd, Nat.reduceMul, Nat.reduceSub, Nat.reduceBEq, Int.reduceToNat, Int.reduceLT, Int.reduceLE, Int.reduceEq, Int.reduceNe, Int.reduceBEq, Int.reduceBNe, Int.reduceAdd, Int.reduceSub, Int.natCast_nonneg, Bool.false_eq_true, Bool.true_eq_false, eq_self]; rfl) (fun h8 => ?_) (fun h8 => ?_)
            · refine AW.seq_k fun K hK => AW.region (by kernel_rfl) ?_
              simp -implicitDefEqProofs only [go_sem, ↓reduceIte, Nat.reduceEqDiff, Nat.reduceLT, Nat.reduceLeDiff, Nat.reduceAdd, Nat.reduceMul, Nat.reduceSub, Nat.reduceBEq, Int.reduceToNat, Int.reduceLT, Int.reduceLE, Int.reduceEq, Int.reduceNe, Int.reduceBEq, Int.reduceBNe, Int.reduceAdd, Int.reduceSub, Int.natCast_nonneg, Bool.false_eq_true, Bool.true_eq_false, eq_self]
              refine hK _ ?_
              clear hK K
              refine AW.ret ?_
              simp -implicitDefEqProofs only [go_sem, ↓reduceIte, Nat.reduceEqDiff, Nat.reduceLT, Nat.reduceLeDiff, Nat.reduceAdd, Nat.reduceMul, Nat.reduceSub, Nat.reduceBEq, Int.reduceToNat, Int.reduceLT, Int.reduceLE, Int.reduceEq, Int.reduceNe, Int.reduceBEq, Int.reduceBNe, Int.reduceAdd, Int.reduceSub, Int.natCast_nonneg, Bool.false_eq_true, Bool.true_eq_false, eq_self]
              refine endK_some ?_
              exact bad (.inr (.inl b2))
            · simp at h8
        · have hnot : ¬ (n.op ≠ 1 ∧ n.op ≠ 2) := by omega
          by_cases b2 : n.pl = 0
          · by_cases b3 : n.kids.l.length < 2
            · refine AW.seq_k fun K hK => AW.regionT ⟨fun _ => .top, fun _ => .pure⟩ (by kernel_rfl) hG (by kernel_rfl) (by kernel_rfl) ?_
              simp -implicitDefEqProofs only [go_sem, ↓reduceIte, Nat.reduceEqDiff, Nat.reduceLT, Nat.reduceLeDiff, Nat.reduceAdd, Nat.reduceMul, Nat.reduceSub, Nat.reduceBEq, Int.reduceToNat, Int.reduceLT, Int.reduceLE, Int.reduceEq, Int.reduceNe, Int.reduceBEq, Int.reduceBNe, Int.reduceAdd, Int.reduceSub, Int.natCast_nonneg, Bool.false_eq_true, Bool.true_eq_false, eq_self, bne_t (show ¬ n.op = 1 by omega), bne_f a1, bne_f b2, decide_eq_true (show (n.kids.l.length : Int) < 2 by omega), ne1, ne2]
              refine hK _ ?_
              clear hK K
              refine AW.condS (by simp -implicitDefEqProofs only [go_sem, ↓reduceIte, Nat.reduceEqDiff, Nat.reduceLT, Nat.reduceLeDiff, Nat.reduceAdd, Nat.reduceMul, Nat.reduceSub, Nat.reduceBEq, Int.reduceToNat, Int.reduceLT, Int.reduceLE, Int.reduceEq, Int.reduceNe, Int.reduceBEq, Int.reduceBNe, Int.reduceAdd, Int.reduceSub, Int.natCast_nonneg, Bool.false_eq_true, Bool.true_eq_false, eq_self]; rfl) (fun h8 => ?_) (fun h8 => ?_)
              · refine AW.seq_k fun K hK => AW.region (by kernel_rfl) ?_
                simp -implicitDefEqProofs only [go_sem, ↓reduceIte, Nat.reduceEqDiff, Nat.reduceLT, Nat.reduceLeDiff, Nat.reduceAdd, Nat.reduceMul, Nat.reduceSub, Nat.reduceBEq, Int.reduceToNat, Int.reduceLT, Int.reduceLE, Int.reduceEq, Int.reduceNe, Int.reduceBEq, Int.reduceBNe, Int.reduceAdd, Int.reduceSub, Int.natCast_nonneg, Bool.false_eq_true, Bool.true_eq_false, eq_self]
                refine hK _ ?_
                clear hK K
                refine AW.ret ?_
                simp -implicitDefEqProofs only [go_sem, ↓reduceIte, Nat.reduceEqDiff, Nat.reduceLT, Nat.reduceLeDiff, Nat.reduceAdd, Nat.reduceMul, Nat.reduceSub, Nat.reduceBEq, Int.reduceToNat, Int.reduceLT, Int.reduceLE, Int.reduceEq, Int.reduceNe, Int.reduceBEq, Int.reduceBNe, Int.reduceAdd, Int.reduceSub, Int.natCast_nonneg, Bool.false_eq_true, Bool.true_eq_false, eq_self]
                refine endK_some ?_
                exact bad (.inr (.inr (.inl b3)))
              · simp at h8
            · by_cases b4 : opn.length < n.kids.l.length
              · refine AW.seq_k fun K hK => AW.regionT ⟨fun _ => .top, fun _ => .pure⟩ (by kernel_rfl) hG (by kernel_rfl) (by kernel_rfl) ?_
                simp -implicitDefEqProofs only [go_sem, ↓reduceIte, Nat.reduceEqDiff, Nat.reduceLT, Nat.reduceLeDiff, Nat.reduceAdd, Nat.reduceMul, Nat.reduceSub, Nat.reduceBEq, Int.reduceToNat, Int.reduceLT, Int.reduceLE, Int.reduceEq, Int.reduceNe, Int.reduceBEq, Int.reduceBNe, Int.reduceAdd, Int.reduceSub, Int.natCast_nonneg, Bool.false_eq_true, Bool.true_eq_false, eq_self, bne_t (show ¬ n.op = 1 by omega), bne_f a1, bne_f b2, decide_eq_false (show ¬ (n.kids.l.length : Int) < 2 by omega), decide_eq_true (show (opn.length : Int) - (n.kids.l.length : Int) < 0 by omega), ne1, ne2]
                refine hK _ ?_
                clear hK K
                refine AW.condS (by simp -implicitDefEqProofs only [go_sem, ↓reduceIte, Nat.reduceEqDiff, Nat.reduceLT, Nat.reduceLeDiff, Nat.reduceAdd, Nat.reduceMul, Nat.reduceSub, Nat.reduceBEq, Int.reduceToNat, Int.reduceLT, Int.reduceLE, Int.reduceEq, Int.reduceNe, Int.reduceBEq, Int.reduceBNe, Int.reduceAdd, Int.reduceSub, Int.natCast_nonneg, Bool.false_eq_true, Bool.true_eq_false, eq_self]; rfl) (fun h8 => ?_) (fun h8 => ?_)
                · refine AW.seq_k fun K hK => AW.region (by kernel_rfl) ?_
                  simp -implicitDefEqProofs only [go_sem, ↓reduceIte, Nat.reduceEqDiff, Nat.reduceLT, Nat.reduceLeDiff, Nat.reduceAdd, Nat.reduceMul, Nat.reduceSub, Nat.reduceBEq, Int.reduceToNat, Int.reduceLT, Int.reduceLE, Int.reduceEq, Int.reduceNe, Int.reduceBEq, Int.reduceBNe, Int.reduceAdd, Int.reduceSub, Int.natCast_nonneg, Bool.false_eq_true, Bool.true_eq_false, eq_self]
                  refine hK _ ?_
                  clear hK K
                  refine AW.ret ?_
                  simp -implicitDefEqProofs only [go_sem, ↓reduceIte, Nat.reduceEqDiff, Nat.reduceLT, Nat.reduceLeDiff, Nat.reduceAdd, Nat.reduceMul, Nat.reduceSub, Nat.reduceBEq, Int.reduceToNat, Int.reduceLT, Int.reduceLE, Int.reduceEq, Int.reduceNe, Int.reduceBEq, Int.reduceBNe, Int.reduceAdd, Int.reduceSub, Int.natCast_nonneg, Bool.false_eq_true, Bool.true_eq_false, eq_self]
                  refine endK_some ?_
                  exact bad (.inr (.inr (.inr (.inl b4))))
                · simp at h8
              · have hd : (opn.length : Int) - (n.kids.l.length : Int) = ((opn.length - n.kids.l.length : Nat) : Int) := by omega
                have hkk : opn.length - n.kids.l.length + n.kids.l.length = opn.length := by omega
                have hlt : opn.length - n.kids.l.length < opn.length := by omega
                generalize hkd : opn.length - n.kids.l.length = kk at hd hkk hlt
                have hne : opn ≠ [] := by intro e; rw [e] at hlt; simp at hlt
                have hsl : (if kk = 0 then V.msl o g 0 opn.length 1 else if kk < opn.length then V.msl o g (kk * 1) (opn.length - kk) 1 else V.slice .any false 1 []) = .msl o g (kk * 1) n.kids.l.length 1 := by
                  by_cases h0 : kk = 0
                  · rw [if_pos h0]; congr 1 <;> omega
                  · rw [if_neg h0, if_pos hlt]; congr 1 <;> omega
                refine AW.seq_k fun K hK => AW.regionT ⟨fun i => if i = 29 then .bool (opn.drop kk == n.kids.l) else .top, fun i => if i = 29 then .lend else .pure⟩ (by kernel_rfl) hG (by kernel_rfl) (by kernel_rfl) ?_
                simp -implicitDefEqProofs only [go_sem, ↓reduceIte, Nat.reduceEqDiff, Nat.reduceLT, Nat.reduceLeDiff, Nat.reduceAdd, Nat.reduceMul, Nat.reduceSub, Nat.reduceBEq, Int.reduceToNat, Int.reduceLT, Int.reduceLE, Int.reduceEq, Int.reduceNe, Int.reduceBEq, Int.reduceBNe, Int.reduceAdd, Int.reduceSub, Int.natCast_nonneg, Bool.false_eq_true, Bool.true_eq_false, eq_self, bne_t (show ¬ n.op = 1 by omega), bne_f a1, bne_f b2, decide_eq_false (show ¬ (n.kids.l.length : Int) < 2 by omega), hd, decide_eq_false (show ¬ ((kk : Nat) : Int) < 0 by omega), grown_ne o g 1 hne, Nat.le_of_lt hlt, Nat.le_refl, and_self, hsl, ne1, ne2]
                have hdt : (opn.drop kk).take n.kids.l.length = opn.drop kk := by rw [List.take_of_length_le]; rw [List.length_drop]; omega
                refine ⟨BorC.of [encSl .old 1 (V.int .i64) (.mk false ((opn.drop kk).take n.kids.l.length)), encSl c2.ent 1 (V.int .i64) n.kids] (by kernel_rfl) ⟨?_, Rd.im (Im.ints _) (by simp -implicitDefEqProofs only [go_sem, ↓reduceIte, Nat.reduceEqDiff, Nat.reduceLT, Nat.reduceLeDiff, Nat.reduceAdd, Nat.reduceMul, Nat.reduceSub, Nat.reduceBEq, Int.reduceToNat, Int.reduceLT, Int.reduceLE, Int.reduceEq, Int.reduceNe, Int.reduceBEq, Int.reduceBNe, Int.reduceAdd, Int.reduceSub, Int.natCast_nonneg, Bool.false_eq_true, Bool.true_eq_false, eq_self]), trivial⟩ ((sEqual_spec G hG _ _ (.mk false ((opn.drop kk).take n.kids.l.length)) n.kids (by simp [Sl.l]; omega)).mono ?_), ?_⟩
                · exact Rd.msl (g := g) (fz := 0) (c := .new) (f := V.int .i64) (by simp -implicitDefEqProofs only [go_sem, ↓reduceIte, Nat.reduceEqDiff, Nat.reduceLT, Nat.reduceLeDiff, Nat.reduceAdd, Nat.reduceMul, Nat.reduceSub, Nat.reduceBEq, Int.reduceToNat, Int.reduceLT, Int.reduceLE, Int.reduceEq, Int.reduceNe, Int.reduceBEq, Int.reduceBNe, Int.reduceAdd, Int.reduceSub, Int.natCast_nonneg, Bool.false_eq_true, Bool.true_eq_false, eq_self, ne3, ne4]; exact grownO_ne _ _ hne) (fun _ => rfl) (fun x y hy => by simp [V.cells] at hy; subst hy; exact .int _ _) (fun _ => rfl) (by omega)
                · rintro _ _ rfl
                  exact ⟨.bool _, by rw [Sl.l_mk, hdt]⟩
                refine hK _ ?_
                clear hK K
                refine AW.condS (by simp -implicitDefEqProofs only [go_sem, ↓reduceIte, Nat.reduceEqDiff, Nat.reduceLT, Nat.reduceLeDiff, Nat.reduceAdd, Nat.reduceMul, Nat.reduceSub, Nat.reduceBEq, Int.reduceToNat, Int.reduceLT, Int.reduceLE, Int.reduceEq, Int.reduceNe, Int.reduceBEq, Int.reduceBNe, Int.reduceAdd, Int.reduceSub, Int.natCast_nonneg, Bool.false_eq_true, Bool.true_eq_false, eq_self]; rfl) (fun h8 => ?_) (fun h8 => ?_)
                · refine AW.seq_k fun K hK => AW.region (by kernel_rfl) ?_
                  simp -implicitDefEqProofs only [go_sem, ↓reduceIte, Nat.reduceEqDiff, Nat.reduceLT, Nat.reduceLeDiff, Nat.reduceAdd, Nat.reduceMul, Nat.reduceSub, Nat.reduceBEq, Int.reduceToNat, Int.reduceLT, Int.reduceLE, Int.reduceEq, Int.reduceNe, Int.reduceBEq, Int.reduceBNe, Int.reduceAdd, Int.reduceSub, Int.natCast_nonneg, Bool.false_eq_true, Bool.true_eq_false, eq_self]
                  refine hK _ ?_
                  clear hK K
                  refine AW.ret ?_
                  simp -implicitDefEqProofs only [go_sem, ↓reduceIte, Nat.reduceEqDiff, Nat.reduceLT, Nat.reduceLeDiff, Nat.reduceAdd, Nat.reduceMul, Nat.reduceSub, Nat.reduceBEq, Int.reduceToNat, Int.reduceLT, Int.reduceLE, Int.reduceEq, Int.reduceNe, Int.reduceBEq, Int.reduceBNe, Int.reduceAdd, Int.reduceSub, Int.natCast_nonneg, Bool.false_eq_true, Bool.true_eq_false, eq_self]
                  refine endK_some ?_
                  refine bad (.inr (.inr (.inr (.inr ?_))))
                  intro e
                  rw [hkd] at e
                  rw [e] at h8
                  simp at h8
                · refine AW.skip ?_
                  simp -implicitDefEqProofs only [go_sem, ↓reduceIte, Nat.reduceEqDiff, Nat.reduceLT, Nat.reduceLeDiff, Nat.reduceAdd, Nat.reduceMul, Nat.reduceSub, Nat.reduceBEq, Int.reduceToNat, Int.reduceLT, Int.reduceLE, Int.reduceEq, Int.reduceNe, Int.reduceBEq, Int.reduceBNe, Int.reduceAdd, Int.reduceSub, Int.natCast_nonneg, Bool.false_eq_true, Bool.true_eq_false, eq_self]
                  refine hK8 _ () ?_ (Weak.st (by simp -implicitDefEqProofs only [go_sem, ↓reduceIte, Nat.reduceEqDiff, Nat.reduceLT, Nat.reduceLeDiff, Nat.reduceAdd, Nat.reduceMul, Nat.reduceSub, Nat.reduceBEq, Int.reduceToNat, Int.reduceLT, Int.reduceLE, Int.reduceEq, Int.reduceNe, Int.reduceBEq, Int.reduceBNe, Int.reduceAdd, Int.reduceSub, Int.natCast_nonneg, Bool.false_eq_true, Bool.true_eq_false, eq_self]; exact ⟨(grown_ne o g 1 hne).symm, by rw [hkd]⟩) (by simp -implicitDefEqProofs only [go_sem, ↓reduceIte, Nat.reduceEqDiff, Nat.reduceLT, Nat.reduceLeDiff, Nat.reduceAdd, Nat.reduceMul, Nat.reduceSub, Nat.reduceBEq, Int.reduceToNat, Int.reduceLT, Int.reduceLE, Int.reduceEq, Int.reduceNe, Int.reduceBEq, Int.reduceBNe, Int.reduceAdd, Int.reduceSub, Int.natCast_nonneg, Bool.false_eq_true, Bool.true_eq_false, eq_self, ne1, ne2, ne3, ne4]))
                  rw [hkd]
                  simp at h8
                  rintro (h | h | h | h | h)
                  · exact hnot h
                  · exact h b2
                  · exact b3 h
                  · exact b4 h
                  · exact h h8
          · refine AW.seq_k fun K hK => AW.regionT ⟨fun _ => .top, fun _ => .pure⟩ (by kernel_rfl) hG (by kernel_rfl) (by kernel_rfl) ?_
            simp -implicitDefEqProofs only [go_sem, ↓reduceIte, Nat.reduceEqDiff, Nat.reduceLT, Nat.reduceLeDiff, Nat.reduceAdd, Nat.reduceMul, Nat.reduceSub, Nat.reduceBEq, Int.reduceToNat, Int.reduceLT, Int.reduceLE, Int.reduceEq, Int.reduceNe, Int.reduceBEq, Int.reduceBNe, Int.reduceAdd, Int.reduceSub, Int.natCast_nonneg, Bool.false_eq_true, Bool.true_eq_false, eq_self, bne_t (show ¬ n.op = 1 by omega), bne_f a1, bne_t b2, ne1, ne2]
            refine hK _ ?_
            clear hK K
            refine AW.condS (by simp -implicitDefEqProofs only [go_sem, ↓reduceIte, Nat.reduceEqDiff, Nat.reduceLT, Nat.reduceLeDiff, Nat.reduceAdd, Nat.reduceMul, Nat.reduceSub, Nat.reduceBEq, Int.reduceToNat, Int.reduceLT, Int.reduceLE, Int.reduceEq, Int.reduceNe, Int.reduceBEq, Int.reduceBNe, Int.reduceAdd, Int.reduceSub, Int.natCast_nonneg, Bool.false_eq_true, Bool.true_eq_false, eq_self]; rfl) (fun h8 => ?_) (fun h8 => ?_)
            · refine AW.seq_k fun K hK => AW.region (by kernel_rfl) ?_
              simp -implicitDefEqProofs only [go_sem, ↓reduceIte, Nat.reduceEqDiff, Nat.reduceLT, Nat.reduceLeDiff, Nat.reduceAdd, Nat.reduceMul, Nat.reduceSub, Nat.reduceBEq, Int.reduceToNat, Int.reduceLT, Int.reduceLE, Int.reduceEq, Int.reduceNe, Int.reduceBEq, Int.reduceBNe, Int.reduceAdd, Int.reduceSub, Int.natCast_nonneg, Bool.false_eq_true, Bool.true_eq_false, eq_self]
              refine hK _ ?_
              clear hK K
              refine AW.ret ?_
              simp -implicitDefEqProofs only [go_sem, ↓reduceIte, Nat.reduceEqDiff, Nat.reduceLT, Nat.reduceLeDiff, Nat.reduceAdd, Nat.reduceMul, Nat.reduceSub, Nat.reduceBEq, Int.reduceToNat, Int.reduceLT, Int.reduceLE, Int.reduceEq, Int.reduceNe, Int.reduceBEq, Int.reduceBNe, Int.reduceAdd, Int.reduceSub, Int.natCast_nonneg, Bool.false_eq_true, Bool.true_eq_false, eq_self]
              refine endK_some ?_
              exact bad (.inr (.inl b2))
            · simp at h8
        · refine AW.seq_k fun K hK => AW.regionT ⟨fun _ => .top, fun _ => .pure⟩ (by kernel_rfl) hG (by kernel_rfl) (by kernel_rfl) ?_
          simp -implicitDefEqProofs only [go_sem, ↓reduceIte, Nat.reduceEqDiff, Nat.reduceLT, Nat.reduceLeDiff, Nat.reduceAdd, Nat.reduceMul, Nat.reduceSub, Nat.reduceBEq, Int.reduceToNat, Int.reduceLT, Int.reduceLE, Int.reduceEq, Int.reduceNe, Int.reduceBEq, Int.reduceBNe, Int.reduceAdd, Int.reduceSub, Int.natCast_nonneg, Bool.false_eq_true, Bool.true_eq_false, eq_self, bne_t a1, bne_t a2, ne1, ne2]
          refine hK _ ?_
          clear hK K
          refine AW.condS (by simp -implicitDefEqProofs only [go_sem, ↓reduceIte, Nat.reduceEqDiff, Nat.reduceLT, Nat.reduceLeDiff, Nat.reduceAdd, Nat.reduceMul, Nat.reduceSub, Nat.reduceBEq, Int.reduceToNat, Int.reduceLT, Int.reduceLE, Int.reduceEq, Int.reduceNe, Int.reduceBEq, Int.reduceBNe, Int.reduceAdd, Int.reduceSub, Int.natCast_nonneg, Bool.false_eq_true, Bool.true_eq_false, eq_self]; rfl) (fun h8 => ?_) (fun h8 => ?_)
          · refine AW.seq_k fun K hK => AW.region (by kernel_rfl) ?_
            simp -implicitDefEqProofs only [go_sem, ↓reduceIte, Nat.reduceEqDiff, Nat.reduceLT, Nat.reduceLeDiff, Nat.reduceAdd, Nat.reduceMul, Nat.reduceSub, Nat.reduceBEq, Int.reduceToNat, Int.reduceLT, Int.reduceLE, Int.reduceEq, Int.reduceNe, Int.reduceBEq, Int.reduceBNe, Int.reduceAdd, Int.reduceSub, Int.natCast_nonneg, Bool.false_eq_true, Bool.true_eq_false, eq_self]
            refine hK _ ?_
            clear hK K
            refine AW.ret ?_
            simp -implicitDefEqProofs only [go_sem, ↓reduceIte, Nat.reduceEqDiff, Nat.reduceLT, Nat.reduceLeDiff, Nat.reduceAdd, Nat.reduceMul, Nat.reduceSub, Nat.reduceBEq, Int.reduceToNat, Int.reduceLT, Int.reduceLE, Int.reduceEq, Int.reduceNe, Int.reduceBEq, Int.reduceBNe, Int.reduceAdd, Int.reduceSub, Int.natCast_nonneg, Bool.false_eq_true, Bool.true_eq_false, eq_self]
            refine endK_some ?_
            exact bad (.inl ⟨a1, a2⟩)
          · simp at h8
      · intro _ hin
        rw [if_neg hin] at hR
        have hkd0 : n.kids.l.length ≤ opn.length := by omega
        have hdrop : opn.drop (opn.length - n.kids.l.length) = n.kids.l := by
          refine Classical.byContradiction fun h => hin (.inr (.inr (.inr (.inr h))))
        have hkv : ∀ kid ∈ n.kids.l, 0 ≤ kid ∧ kid < (k : Int) := fun kid h => hov kid (List.mem_of_mem_drop (hdrop ▸ h))
        have hne : opn ≠ [] := by intro e; have h0 : opn.length = 0 := by rw [e]; rfl
                                  omega
        refine AW.seqJ (fun (_ : Unit) => st [(1, .ptr 1 g1 0), (3, grown o g 1 opn), (8, encSl c1 3 (encNd c2) t), (9, .int .i64 t.l.length), (10, .int .i64 k), (4, .int .i64 k), (6, .int .i64 ((opn.length - n.kids.l.length : Nat) : Int))] [(1, .cells .new g1 0 [encSl c1 3 (encNd c2) t]), (o, grownO g (V.int .i64) opn)])
          (fun _ => ¬ n.kids.l.any (sameOp t.l n) = true) (fun K10 hK10 => ?_) ?_
        · refine AW.seq_k fun K hK => AW.region (by kernel_rfl) ?_
          simp -implicitDefEqProofs only [go_sem, ↓reduceIte, Nat.reduceEqDiff, Nat.reduceLT, Nat.reduceLeDiff, Nat.reduceAdd, Nat.reduceMul, Nat.reduceSub, Nat.reduceBEq, Int.reduceToNat, Int.reduceLT, Int.reduceLE, Int.reduceEq, Int.reduceNe, Int.reduceBEq, Int.reduceBNe, Int.reduceAdd, Int.reduceSub, Int.natCast_nonneg, Bool.false_eq_true, Bool.true_eq_false, eq_self, ne1, ne2]
          refine CallA.bor hG [encSl c2.ent 1 (V.int .i64) n.kids, .func (.func 34) [] [.view .old (encTree c1.ent c2.ent t), .view .old (encNd c2.ent n)]] (by kernel_rfl) ⟨Rd.im (Im.ints _) (by simp -implicitDefEqProofs only [go_sem, ↓reduceIte, Nat.reduceEqDiff, Nat.reduceLT, Nat.reduceLeDiff, Nat.reduceAdd, Nat.reduceMul, Nat.reduceSub, Nat.reduceBEq, Int.reduceToNat, Int.reduceLT, Int.reduceLE, Int.reduceEq, Int.reduceNe, Int.reduceBEq, Int.reduceBNe, Int.reduceAdd, Int.reduceSub, Int.natCast_nonneg, Bool.false_eq_true, Bool.true_eq_false, eq_self]), Rd.funcL ⟨?_, ?_, trivial⟩, trivial⟩ ?_
          · exact Rd.ptr (v := encTree c1 c2 t) (c := .new) (fz := 0) (by simp -implicitDefEqProofs only [go_sem, ↓reduceIte, Nat.reduceEqDiff, Nat.reduceLT, Nat.reduceLeDiff, Nat.reduceAdd, Nat.reduceMul, Nat.reduceSub, Nat.reduceBEq, Int.reduceToNat, Int.reduceLT, Int.reduceLE, Int.reduceEq, Int.reduceNe, Int.reduceBEq, Int.reduceBNe, Int.reduceAdd, Int.reduceSub, Int.natCast_nonneg, Bool.false_eq_true, Bool.true_eq_false, eq_self]) (by
              intro y hy
              simp only [encTree, V.cells, List.mem_cons, List.not_mem_nil, or_false] at hy
              subst hy; exact Im.nds _ _ _) (by simp -implicitDefEqProofs only [go_sem, ↓reduceIte, Nat.reduceEqDiff, Nat.reduceLT, Nat.reduceLeDiff, Nat.reduceAdd, Nat.reduceMul, Nat.reduceSub, Nat.reduceBEq, Int.reduceToNat, Int.reduceLT, Int.reduceLE, Int.reduceEq, Int.reduceNe, Int.reduceBEq, Int.reduceBNe, Int.reduceAdd, Int.reduceSub, Int.natCast_nonneg, Bool.false_eq_true, Bool.true_eq_false, eq_self])
          · exact Rd.ptr (v := encNd c2 n) (c := .new) (fz := 0) (by simp -implicitDefEqProofs only [go_sem, ↓reduceIte, Nat.reduceEqDiff, Nat.reduceLT, Nat.reduceLeDiff, Nat.reduceAdd, Nat.reduceMul, Nat.reduceSub, Nat.reduceBEq, Int.reduceToNat, Int.reduceLT, Int.reduceLE, Int.reduceEq, Int.reduceNe, Int.reduceBEq, Int.reduceBNe, Int.reduceAdd, Int.reduceSub, Int.natCast_nonneg, Bool.false_eq_true, Bool.true_eq_false, eq_self]) (by
              intro y hy
              simp only [encNd, V.cells, List.mem_cons, List.not_mem_nil, or_false] at hy
              rcases hy with rfl | rfl | rfl
              · exact .int _ _
              · exact .int _ _
              · exact Im.ints _) (by simp -implicitDefEqProofs only [go_sem, ↓reduceIte, Nat.reduceEqDiff, Nat.reduceLT, Nat.reduceLeDiff, Nat.reduceAdd, Nat.reduceMul, Nat.reduceSub, Nat.reduceBEq, Int.reduceToNat, Int.reduceLT, Int.reduceLE, Int.reduceEq, Int.reduceNe, Int.reduceBEq, Int.reduceBNe, Int.reduceAdd, Int.reduceSub, Int.natCast_nonneg, Bool.false_eq_true, Bool.true_eq_false, eq_self])
          refine (fIContains_spec G hG _ n.kids hkl 34 [.view .old (encTree c1.ent c2.ent t), .view .old (encNd c2.ent n)] (by kernel_rfl) (sameOp t.l n) ?_ ?_).mono ?_
          · simp -implicitDefEqProofs only [go_sem, ↓reduceIte, Nat.reduceEqDiff, Nat.reduceLT, Nat.reduceLeDiff, Nat.reduceAdd, Nat.reduceMul, Nat.reduceSub, Nat.reduceBEq, Int.reduceToNat, Int.reduceLT, Int.reduceLE, Int.reduceEq, Int.reduceNe, Int.reduceBEq, Int.reduceBNe, Int.reduceAdd, Int.reduceSub, Int.natCast_nonneg, Bool.false_eq_true, Bool.true_eq_false, eq_self, List.map_cons, List.map_nil]
          · intro kid hkid
            obtain ⟨h0, h1⟩ := hkv kid hkid
            have hlt : kid.toNat < t.l.length := by omega
            have hgm := List.getElem?_eq_getElem hlt
            refine (rightKid_spec G hG _ _ _ _ _ t n _ kid h0 hgm).mono ?_
            rintro _ _ rfl
            rw [sameOp, hgm]
          · rintro _ _ rfl
            refine ⟨.bool _, ?_⟩
            simp -implicitDefEqProofs only [go_sem, ↓reduceIte, Nat.reduceEqDiff, Nat.reduceLT, Nat.reduceLeDiff, Nat.reduceAdd, Nat.reduceMul, Nat.reduceSub, Nat.reduceBEq, Int.reduceToNat, Int.reduceLT, Int.reduceLE, Int.reduceEq, Int.reduceNe, Int.reduceBEq, Int.reduceBNe, Int.reduceAdd, Int.reduceSub, Int.natCast_nonneg, Bool.false_eq_true, Bool.true_eq_false, eq_self]
            refine hK _ ?_
            clear hK K
            refine AW.condS (by simp -implicitDefEqProofs only [go_sem, ↓reduceIte, Nat.reduceEqDiff, Nat.reduceLT, Nat.reduceLeDiff, Nat.reduceAdd, Nat.reduceMul, Nat.reduceSub, Nat.reduceBEq, Int.reduceToNat, Int.reduceLT, Int.reduceLE, Int.reduceEq, Int.reduceNe, Int.reduceBEq, Int.reduceBNe, Int.reduceAdd, Int.reduceSub, Int.natCast_nonneg, Bool.false_eq_true, Bool.true_eq_false, eq_self]; rfl) (fun h11 => ?_) (fun h11 => ?_)
            · refine AW.seq_k fun K hK => AW.region (by kernel_rfl) ?_
              simp -implicitDefEqProofs only [go_sem, ↓reduceIte, Nat.reduceEqDiff, Nat.reduceLT, Nat.reduceLeDiff, Nat.reduceAdd, Nat.reduceMul, Nat.reduceSub, Nat.reduceBEq, Int.reduceToNat, Int.reduceLT, Int.reduceLE, Int.reduceEq, Int.reduceNe, Int.reduceBEq, Int.reduceBNe, Int.reduceAdd, Int.reduceSub, Int.natCast_nonneg, Bool.false_eq_true, Bool.true_eq_false, eq_self]
              refine hK _ ?_
              clear hK K
              refine AW.ret ?_
              simp -implicitDefEqProofs only [go_sem, ↓reduceIte, Nat.reduceEqDiff, Nat.reduceLT, Nat.reduceLeDiff, Nat.reduceAdd, Nat.reduceMul, Nat.reduceSub, Nat.reduceBEq, Int.reduceToNat, Int.reduceLT, Int.reduceLE, Int.reduceEq, Int.reduceNe, Int.reduceBEq, Int.reduceBNe, Int.reduceAdd, Int.reduceSub, Int.natCast_nonneg, Bool.false_eq_true, Bool.true_eq_false, eq_self]
              refine endK_some ?_
              rw [if_pos h11] at hR
              rw [rightP, ← hR]
            · refine AW.skip ?_
              simp -implicitDefEqProofs only [go_sem, ↓reduceIte, Nat.reduceEqDiff, Nat.reduceLT, Nat.reduceLeDiff, Nat.reduceAdd, Nat.reduceMul, Nat.reduceSub, Nat.reduceBEq, Int.reduceToNat, Int.reduceLT, Int.reduceLE, Int.reduceEq, Int.reduceNe, Int.reduceBEq, Int.reduceBNe, Int.reduceAdd, Int.reduceSub, Int.natCast_nonneg, Bool.false_eq_true, Bool.true_eq_false, eq_self]
              exact hK10 _ () (by rw [h11]; simp) (Weak.st (by simp -implicitDefEqProofs only [go_sem, ↓reduceIte, Nat.reduceEqDiff, Nat.reduceLT, Nat.reduceLeDiff, Nat.reduceAdd, Nat.reduceMul, Nat.reduceSub, Nat.reduceBEq, Int.reduceToNat, Int.reduceLT, Int.reduceLE, Int.reduceEq, Int.reduceNe, Int.reduceBEq, Int.reduceBNe, Int.reduceAdd, Int.reduceSub, Int.natCast_nonneg, Bool.false_eq_true, Bool.true_eq_false, eq_self]) (by simp -implicitDefEqProofs only [go_sem, ↓reduceIte, Nat.reduceEqDiff, Nat.reduceLT, Nat.reduceLeDiff, Nat.reduceAdd, Nat.reduceMul, Nat.reduceSub, Nat.reduceBEq, Int.reduceToNat, Int.reduceLT, Int.reduceLE, Int.reduceEq, Int.reduceNe, Int.reduceBEq, Int.reduceBNe, Int.reduceAdd, Int.reduceSub, Int.natCast_nonneg, Bool.false_eq_true, Bool.true_eq_false, eq_self, ne1, ne2, ne3, ne4]))
        · intro _ hany
          rw [if_neg hany] at hR
          generalize hkd : opn.length - n.kids.l.length = kk at hR hdrop
          have hlt : kk ≤ opn.length := by omega
          refine AW.region (by kernel_rfl) ?_
          simp -implicitDefEqProofs only [go_sem, ↓reduceIte, Nat.reduceEqDiff, Nat.reduceLT, Nat.reduceLeDiff, Nat.reduceAdd, Nat.reduceMul, Nat.reduceSub, Nat.reduceBEq, Int.reduceToNat, Int.reduceLT, Int.reduceLE, Int.reduceEq, Int.reduceNe, Int.reduceBEq, Int.reduceBNe, Int.reduceAdd, Int.reduceSub, Int.natCast_nonneg, Bool.false_eq_true, Bool.true_eq_false, eq_self, grown_ne o g 1 hne, Nat.zero_le, hlt, and_self, ne1, ne3, ne7, ne8, grownO_ne g (V.int .i64) hne]
          intro g79
          refine ⟨roomOk_of (by omega) (by omega), by rw [flat_len (m := 1) (fun _ => rfl)]; omega, fun g2 => ?_⟩
          refine hK5 _ ?_
          refine AW.region (by kernel_rfl) ?_
          simp -implicitDefEqProofs only [go_sem, ↓reduceIte, Nat.reduceEqDiff, Nat.reduceLT, Nat.reduceLeDiff, Nat.reduceAdd, Nat.reduceMul, Nat.reduceSub, Nat.reduceBEq, Int.reduceToNat, Int.reduceLT, Int.reduceLE, Int.reduceEq, Int.reduceNe, Int.reduceBEq, Int.reduceBNe, Int.reduceAdd, Int.reduceSub, Int.natCast_nonneg, Bool.false_eq_true, Bool.true_eq_false, eq_self]
          have hne2 : opn.take kk ++ [(k : Int)] ≠ [] := by simp
          have hlen2 : (opn.take kk ++ [(k : Int)]).length = kk + 1 := by simp; omega
          have hfl : (flat (opn.map (V.int .i64))).take (kk * 1) = flat ((opn.take kk).map (V.int .i64)) := by
            have := flat_drop (m := 1) (f := V.int .i64) (fun _ => rfl) opn (off := 0) (n := kk) (by omega)
            simpa using this
          refine hL2 _ ⟨hk1, ((o, g2), opn.take kk ++ [(k : Int)]), ⟨ho, hR, by rw [hlen2]; omega, ?_⟩, Weak.st (by simp -implicitDefEqProofs only [go_sem, ↓reduceIte, Nat.reduceEqDiff, Nat.reduceLT, Nat.reduceLeDiff, Nat.reduceAdd, Nat.reduceMul, Nat.reduceSub, Nat.reduceBEq, Int.reduceToNat, Int.reduceLT, Int.reduceLE, Int.reduceEq, Int.reduceNe, Int.reduceBEq, Int.reduceBNe, Int.reduceAdd, Int.reduceSub, Int.natCast_nonneg, Bool.false_eq_true, Bool.true_eq_false, eq_self]; exact ⟨by rw [grown_ne _ _ _ hne2, hlen2], congrArg _ (w64 (by omega) (by omega))⟩) (by simp -implicitDefEqProofs only [go_sem, ↓reduceIte, Nat.reduceEqDiff, Nat.reduceLT, Nat.reduceLeDiff, Nat.reduceAdd, Nat.reduceMul, Nat.reduceSub, Nat.reduceBEq, Int.reduceToNat, Int.reduceLT, Int.reduceLE, Int.reduceEq, Int.reduceNe, Int.reduceBEq, Int.reduceBNe, Int.reduceAdd, Int.reduceSub, Int.natCast_nonneg, Bool.false_eq_true, Bool.true_eq_false, eq_self, ne1]; rw [grownO_ne _ _ hne2, List.map_append, flat_app, hfl]; rfl)⟩
          intro y hy
          simp only [List.mem_append, List.mem_singleton] at hy
          rcases hy with hy | rfl
          · have := hov y (List.mem_of_mem_take hy)
            omega
          · omega
  · -- false
    refine AW.exit ?_
    simp -implicitDefEqProofs only [go_sem, ↓reduceIte, Nat.reduceEqDiff, Nat.reduceLT, Nat.reduceLeDiff, Nat.reduceAdd, Nat.reduceMul, Nat.reduceSub, Nat.reduceBEq, Int.reduceToNat, Int.reduceLT, Int.reduceLE, Int.reduceEq, Int.reduceNe, Int.reduceBEq, Int.reduceBNe, Int.reduceAdd, Int.reduceSub, Int.natCast_nonneg, Bool.false_eq_true, Bool.true_eq_false, eq_self]
    refine hK1 _ ?_
    have hk1 : k = t.l.length := by simp at h4; omega
    refine AW.seq_k fun K hK => AW.region (by kernel_rfl) ?_
    simp -implicitDefEqProofs only [go_sem, ↓reduceIte, Nat.reduceEqDiff, Nat.reduceLT, Nat.reduceLeDiff, Nat.reduceAdd, Nat.reduceMul, Nat.reduceSub, Nat.reduceBEq, Int.reduceToNat, Int.reduceLT, Int.reduceLE, Int.reduceEq, Int.reduceNe, Int.reduceBEq, Int.reduceBNe, Int.reduceAdd, Int.reduceSub, Int.natCast_nonneg, Bool.false_eq_true, Bool.true_eq_false, eq_self]
    refine hK _ ?_
    clear hK K
    refine AW.ret ?_
    simp -implicitDefEqProofs only [go_sem, ↓reduceIte, Nat.reduceEqDiff, Nat.reduceLT, Nat.reduceLeDiff, Nat.reduceAdd, Nat.reduceMul, Nat.reduceSub, Nat.reduceBEq, Int.reduceToNat, Int.reduceLT, Int.reduceLE, Int.reduceEq, Int.reduceNe, Int.reduceBEq, Int.reduceBNe, Int.reduceAdd, Int.reduceSub, Int.natCast_nonneg, Bool.false_eq_true, Bool.true_eq_false, eq_self]
    refine endK_some ?_
    rw [hk1, List.drop_length, rightGo] at hR
    rw [rightP, ← hR]
    simp
    omega
end Go.Hs
end

section
namespace Go.Hs
/-- What holds of each node of a right row. -/
def NodeOk (n : Nd) (i : Nat) : Prop :=
  (n.op ≥ 3 ∧ n.op ≤ 7 ∧ n.kids.l = []) ∨ ((n.op = 1 ∨ n.op = 2) ∧ n.pl = 0 ∧ 2 ≤ n.kids.l.length ∧ ∀ kid ∈ n.kids.l, 0 ≤ kid ∧ kid < (i : Int))
theorem rightGo_ok (l : List Nd) : ∀ (r : List Nd) (i : Nat) (opn res : List Int), rightGo l r i opn = some res → (∀ y ∈ opn, 0 ≤ y ∧ y < (i : Int)) → ∀ j n, r[j]? = some n → NodeOk n (i + j)
  | [], i, opn, res, _, _, j, n, hn => by simp at hn
  | m :: r, i, opn, res, h, ho, j, n, hn => by
    rw [rightGo] at h
    have key : ∀ opn', rightGo l r (i + 1) opn' = some res → (∀ y ∈ opn', 0 ≤ y ∧ y < ((i + 1 : Nat) : Int)) → NodeOk m i → NodeOk n (i + j) := by
      intro opn' h1 h2 h3
      cases j with
      | zero =>
        simp at hn
        subst hn
        exact h3
      | succ j =>
        have := rightGo_ok l r (i + 1) opn' res h1 h2 j n (by simpa using hn)
        rwa [show i + (j + 1) = i + 1 + j by omega]
    split at h
    · rename_i h1
      refine key _ h ?_ (.inl ⟨h1.1, h1.2.1, List.length_eq_zero_iff.1 h1.2.2⟩)
      intro y hy
      simp only [List.mem_append, List.mem_singleton] at hy
      rcases hy with hy | rfl
      · have := ho y hy; omega
      · omega
    · split at h
      · cases h
      · rename_i h1 h2
        split at h
        · cases h
        · have hd : opn.drop (opn.length - m.kids.l.length) = m.kids.l := Classical.byContradiction fun e => h2 (.inr (.inr (.inr (.inr e))))
          refine key _ h ?_ (.inr ⟨by omega, by omega, by omega, fun kid hk => ho kid (List.mem_of_mem_drop (hd ▸ hk))⟩)
          intro y hy
          simp only [List.mem_append, List.mem_singleton] at hy
          rcases hy with hy | rfl
          · have := ho y (List.mem_of_mem_take hy); omega
          · omega
theorem rightP_ok {l : List Nd} (h : rightP l = true) : ∀ i n, l[i]? = some n → NodeOk n i := by
  unfold rightP at h
  split at h
  · rename_i res hr
    intro i n hn
    have := rightGo_ok l l 0 [] res hr (by simp) i n hn
    rwa [Nat.zero_add] at this
  · cases h
/-- The leaves that are ready, as the program walks to them. -/
def readyAt (l : List Nd) : Nat → Nat → List Int
  | 0, _ => []
  | f + 1, i => match l[i]? with
    | none => []
    | some n => if n.op = 1 then (match n.kids.l with | [] => [] | k :: _ => readyAt l f k.toNat)
      else if n.op = 2 then n.kids.l.flatMap fun k => readyAt l f k.toNat
      else [(i : Int)]
def readyP (l : List Nd) : List Int := if l.length = 0 ∨ rightP l = false then [] else readyAt l l.length (l.length - 1)
end Go.Hs
end

section
namespace Go.Hs
open Go.Proofs
set_option maxRecDepth 10000
def Pt.zero : Pt := .mk 0 0 none []
def Pt.leaf (op pl : Int) : Pt := if op < 3 ∨ op > 7 then .zero else .mk op pl none []
/- hopscotch/hopscotchref22.Leaf -/
theorem rLeaf_spec (G : Nat → V) (hG : GOk G) (op pl : Int) :
    Spec Try.prog G 25 [.int .u8 op, .int .i64 pl] hNone (fun v _ => v = encPt .any (Pt.leaf op pl)) := by
  refine Spec.of_code' 0 15 [ResultVar.cell 4 31] Try.func25 rfl rfl rfl rfl fun X => ?_
  refine AW.seq_k fun K hK => AW.region (by kernel_rfl) ?_
  simp -implicitDefEqProofs only [go_sem, ↓reduceIte, Nat.reduceEqDiff, Nat.reduceLT, Nat.reduceLeDiff, Nat.reduceAdd, Nat.reduceMul, Nat.reduceSub, Nat.reduceBEq, Int.reduceToNat, Int.reduceLT, Int.reduceLE, Int.reduceEq, Int.reduceNe, Int.reduceBEq, Int.reduceBNe, Int.reduceAdd, Int.reduceSub, Int.natCast_nonneg, Bool.false_eq_true, Bool.true_eq_false, eq_self]
  intro g4
  refine hK _ ?_
  clear hK K
  refine AW.seq_k fun K1 hK1 => ?_
  have hfin : ∀ b, b = (decide (op < 3) || decide (op > 7)) → True := fun _ _ => trivial
  by_cases h0 : op < 3
  · refine AW.seq_k fun K hK => AW.region (by kernel_rfl) ?_
    simp -implicitDefEqProofs only [go_sem, ↓reduceIte, Nat.reduceEqDiff, Nat.reduceLT, Nat.reduceLeDiff, Nat.reduceAdd, Nat.reduceMul, Nat.reduceSub, Nat.reduceBEq, Int.reduceToNat, Int.reduceLT, Int.reduceLE, Int.reduceEq, Int.reduceNe, Int.reduceBEq, Int.reduceBNe, Int.reduceAdd, Int.reduceSub, Int.natCast_nonneg, Bool.false_eq_true, Bool.true_eq_false, eq_self, decide_eq_true h0]
    refine hK _ ?_
    clear hK K
    refine AW.condS (by simp -implicitDefEqProofs only [go_sem, ↓reduceIte, Nat.reduceEqDiff, Nat.reduceLT, Nat.reduceLeDiff, Nat.reduceAdd, Nat.reduceMul, Nat.reduceSub, Nat.reduceBEq, Int.reduceToNat, Int.reduceLT, Int.reduceLE, Int.reduceEq, Int.reduceNe, Int.reduceBEq, Int.reduceBNe, Int.reduceAdd, Int.reduceSub, Int.natCast_nonneg, Bool.false_eq_true, Bool.true_eq_false, eq_self]; rfl) (fun h2 => ?_) (fun h2 => ?_)
    · refine AW.seq_k fun K hK => AW.region (by kernel_rfl) ?_
      simp -implicitDefEqProofs only [go_sem, ↓reduceIte, Nat.reduceEqDiff, Nat.reduceLT, Nat.reduceLeDiff, Nat.reduceAdd, Nat.reduceMul, Nat.reduceSub, Nat.reduceBEq, Int.reduceToNat, Int.reduceLT, Int.reduceLE, Int.reduceEq, Int.reduceNe, Int.reduceBEq, Int.reduceBNe, Int.reduceAdd, Int.reduceSub, Int.natCast_nonneg, Bool.false_eq_true, Bool.true_eq_false, eq_self]
      refine hK _ ?_
      clear hK K
      refine AW.ret ?_
      simp -implicitDefEqProofs only [go_sem, ↓reduceIte, Nat.reduceEqDiff, Nat.reduceLT, Nat.reduceLeDiff, Nat.reduceAdd, Nat.reduceMul, Nat.reduceSub, Nat.reduceBEq, Int.reduceToNat, Int.reduceLT, Int.reduceLE, Int.reduceEq, Int.reduceNe, Int.reduceBEq, Int.reduceBNe, Int.reduceAdd, Int.reduceSub, Int.natCast_nonneg, Bool.false_eq_true, Bool.true_eq_false, eq_self]
      refine endK_some ?_
      rw [Pt.leaf, if_pos (.inl h0)]
      rfl
    · simp at h2
  · refine AW.seq_k fun K hK => AW.region (by kernel_rfl) ?_
    simp -implicitDefEqProofs only [go_sem, ↓reduceIte, Nat.reduceEqDiff, Nat.reduceLT, Nat.reduceLeDiff, Nat.reduceAdd, Nat.reduceMul, Nat.reduceSub, Nat.reduceBEq, Int.reduceToNat, Int.reduceLT, Int.reduceLE, Int.reduceEq, Int.reduceNe, Int.reduceBEq, Int.reduceBNe, Int.reduceAdd, Int.reduceSub, Int.natCast_nonneg, Bool.false_eq_true, Bool.true_eq_false, eq_self, decide_eq_false h0]
    refine hK _ ?_
    clear hK K
    refine AW.condS (by simp -implicitDefEqProofs only [go_sem, ↓reduceIte, Nat.reduceEqDiff, Nat.reduceLT, Nat.reduceLeDiff, Nat.reduceAdd, Nat.reduceMul, Nat.reduceSub, Nat.reduceBEq, Int.reduceToNat, Int.reduceLT, Int.reduceLE, Int.reduceEq, Int.reduceNe, Int.reduceBEq, Int.reduceBNe, Int.reduceAdd, Int.reduceSub, Int.natCast_nonneg, Bool.false_eq_true, Bool.true_eq_false, eq_self]; rfl) (fun h2 => ?_) (fun h2 => ?_)
    · refine AW.seq_k fun K hK => AW.region (by kernel_rfl) ?_
      simp -implicitDefEqProofs only [go_sem, ↓reduceIte, Nat.reduceEqDiff, Nat.reduceLT, Nat.reduceLeDiff, Nat.reduceAdd, Nat.reduceMul, Nat.reduceSub, Nat.reduceBEq, Int.reduceToNat, Int.reduceLT, Int.reduceLE, Int.reduceEq, Int.reduceNe, Int.reduceBEq, Int.reduceBNe, Int.reduceAdd, Int.reduceSub, Int.natCast_nonneg, Bool.false_eq_true, Bool.true_eq_false, eq_self]
      refine hK _ ?_
      clear hK K
      refine AW.ret ?_
      simp -implicitDefEqProofs only [go_sem, ↓reduceIte, Nat.reduceEqDiff, Nat.reduceLT, Nat.reduceLeDiff, Nat.reduceAdd, Nat.reduceMul, Nat.reduceSub, Nat.reduceBEq, Int.reduceToNat, Int.reduceLT, Int.reduceLE, Int.reduceEq, Int.reduceNe, Int.reduceBEq, Int.reduceBNe, Int.reduceAdd, Int.reduceSub, Int.natCast_nonneg, Bool.false_eq_true, Bool.true_eq_false, eq_self]
      refine endK_some ?_
      have h1 : op > 7 := by simpa using h2
      rw [Pt.leaf, if_pos (.inr h1)]
      rfl
    · refine AW.skip ?_
      simp -implicitDefEqProofs only [go_sem, ↓reduceIte, Nat.reduceEqDiff, Nat.reduceLT, Nat.reduceLeDiff, Nat.reduceAdd, Nat.reduceMul, Nat.reduceSub, Nat.reduceBEq, Int.reduceToNat, Int.reduceLT, Int.reduceLE, Int.reduceEq, Int.reduceNe, Int.reduceBEq, Int.reduceBNe, Int.reduceAdd, Int.reduceSub, Int.natCast_nonneg, Bool.false_eq_true, Bool.true_eq_false, eq_self]
      refine hK1 _ ?_
      refine AW.seq_k fun K hK => AW.region (by kernel_rfl) ?_
      simp -implicitDefEqProofs only [go_sem, ↓reduceIte, Nat.reduceEqDiff, Nat.reduceLT, Nat.reduceLeDiff, Nat.reduceAdd, Nat.reduceMul, Nat.reduceSub, Nat.reduceBEq, Int.reduceToNat, Int.reduceLT, Int.reduceLE, Int.reduceEq, Int.reduceNe, Int.reduceBEq, Int.reduceBNe, Int.reduceAdd, Int.reduceSub, Int.natCast_nonneg, Bool.false_eq_true, Bool.true_eq_false, eq_self]
      refine hK _ ?_
      clear hK K
      refine AW.ret ?_
      simp -implicitDefEqProofs only [go_sem, ↓reduceIte, Nat.reduceEqDiff, Nat.reduceLT, Nat.reduceLeDiff, Nat.reduceAdd, Nat.reduceMul, Nat.reduceSub, Nat.reduceBEq, Int.reduceToNat, Int.reduceLT, Int.reduceLE, Int.reduceEq, Int.reduceNe, Int.reduceBEq, Int.reduceBNe, Int.reduceAdd, Int.reduceSub, Int.natCast_nonneg, Bool.false_eq_true, Bool.true_eq_false, eq_self]
      refine endK_some ?_
      have h1 : ¬ op > 7 := by simpa using h2
      rw [Pt.leaf, if_neg (by omega)]
      rfl
end Go.Hs
end

section
namespace Go.Hs
open Go.Proofs
set_option maxRecDepth 10000
/-- The parts of a node, read from behind. -/
def partKs (rec : Int → Pt × Int × Bool) (op : Int) : List Int → Int → List Pt → Option (List Pt × Int)
  | [], first, acc => some (acc, first)
  | k :: r, first, acc => if k ≠ first - 1 then none else
      if (rec (first - 1)).2.2 = false ∨ (rec (first - 1)).1.op = op then none else partKs rec op r (rec (first - 1)).2.1 ((rec (first - 1)).1 :: acc)
/-- The tree whose last node stands at a place. -/
def partP : Nat → List Nd → Int → Pt × Int × Bool
  | 0, _, _ => (Pt.zero, 0, false)
  | f + 1, l, pl => if pl < 0 then (Pt.zero, 0, false) else
      match l[pl.toNat]? with
      | none => (Pt.zero, 0, false)
      | some n =>
        if n.op ≥ 3 ∧ n.op ≤ 7 ∧ n.kids.l.length = 0 then (.mk n.op n.pl none [], pl, true)
        else if (n.op ≠ 1 ∧ n.op ≠ 2) ∨ n.kids.l.length < 2 ∨ n.pl ≠ 0 then (Pt.zero, 0, false)
        else match partKs (partP f l) n.op n.kids.l.reverse pl [] with
          | some (kids, first) => (Pt.of n.op 0 (grownS kids), first, true)
          | none => (Pt.zero, 0, false)
theorem partKs_first {rec : Int → Pt × Int × Bool} {op : Int} (hrec : ∀ x, (rec x).2.2 = true → 0 ≤ (rec x).2.1 ∧ (rec x).2.1 ≤ x) : ∀ (l : List Int) (first : Int) (acc : List Pt) {kids : List Pt} {f : Int},
    0 ≤ first → partKs rec op l first acc = some (kids, f) → 0 ≤ f ∧ f ≤ first
  | [], first, acc, kids, f, h0, h => by simp [partKs] at h; omega
  | k :: r, first, acc, kids, f, h0, h => by
    rw [partKs] at h
    split at h
    · cases h
    · split at h
      · cases h
      · rename_i h1
        have h2 := hrec (first - 1) (by cases hb : (rec (first - 1)).2.2 with | true => rfl | false => exact absurd (.inl hb) h1)
        have := partKs_first hrec r _ _ h2.1 h
        omega
theorem partP_first : ∀ (f : Nat) (l : List Nd) (pl : Int), (partP f l pl).2.2 = true → 0 ≤ (partP f l pl).2.1 ∧ (partP f l pl).2.1 ≤ pl
  | 0, l, pl, h => by simp [partP] at h
  | f + 1, l, pl, h => by
    rw [partP] at h ⊢
    split at h
    · cases h
    · rename_i h0
      rw [if_neg h0]
      split at h
      · cases h
      · rename_i n hn
        split at h
        · rename_i h1
          rw [if_pos h1]
          simp; omega
        · rename_i h1
          rw [if_neg h1]
          split at h
          · cases h
          · rename_i h2
            rw [if_neg h2]
            split at h
            · rename_i kids first hk
              exact partKs_first (fun x hx => partP_first f l x hx) _ _ _ (by omega) hk
            · cases h
def encPr (c : Col) (r : Pt × Int × Bool) : V := .tuple [encPt c r.1, .int .i64 r.2.1, .bool r.2.2]
theorem encPt_zero (c : Col) : encPt c Pt.zero = .agg [.int .u8 0, .int .i64 0, .nils] := rfl
/- hopscotch/hopscotchref22.part -/
theorem rPart_spec (G : Nat → V) (hG : GOk G) : ∀ (f : Nat) (c1 c2 : Col) (l : Sl Nd) (pl : Int), pl < f → -100 < pl → pl < 1000000000 → l.l.length < 1000000000 → (∀ n ∈ l.l, n.kids.l.length < 1000000000) →
    Spec Try.prog G 26 [encNds c1 c2 l, .int .i64 pl] hNone (fun v _ => v = encPr .any (partP f l.l pl)) := by
  intro f
  induction f with
  | zero =>
    intro c1 c2 l pl h1 h2 h3 h4 hks
    refine Spec.of_code' 0 115 [ResultVar.cell 4 31, .tmp 5, .tmp 6] Try.func26 rfl rfl rfl rfl fun X => ?_
    refine AW.seq_k fun K hK => AW.region (by kernel_rfl) ?_
    simp -implicitDefEqProofs only [go_sem, ↓reduceIte, Nat.reduceEqDiff, Nat.reduceLT, Nat.reduceLeDiff, Nat.reduceAdd, Nat.reduceMul, Nat.reduceSub, Nat.reduceBEq, Int.reduceToNat, Int.reduceLT, Int.reduceLE, Int.reduceEq, Int.reduceNe, Int.reduceBEq, Int.reduceBNe, Int.reduceAdd, Int.reduceSub, Int.natCast_nonneg, Bool.false_eq_true, Bool.true_eq_false, eq_self]
    intro g4
    refine hK _ ?_
    clear hK K
    refine AW.seq_k fun K1 hK1 => ?_
    refine AW.seq_k fun K hK => AW.region (by kernel_rfl) ?_
    simp -implicitDefEqProofs only [go_sem, ↓reduceIte, Nat.reduceEqDiff, Nat.reduceLT, Nat.reduceLeDiff, Nat.reduceAdd, Nat.reduceMul, Nat.reduceSub, Nat.reduceBEq, Int.reduceToNat, Int.reduceLT, Int.reduceLE, Int.reduceEq, Int.reduceNe, Int.reduceBEq, Int.reduceBNe, Int.reduceAdd, Int.reduceSub, Int.natCast_nonneg, Bool.false_eq_true, Bool.true_eq_false, eq_self, decide_eq_true (show pl < 0 by omega)]
    refine hK _ ?_
    clear hK K
    refine AW.condS (by simp -implicitDefEqProofs only [go_sem, ↓reduceIte, Nat.reduceEqDiff, Nat.reduceLT, Nat.reduceLeDiff, Nat.reduceAdd, Nat.reduceMul, Nat.reduceSub, Nat.reduceBEq, Int.reduceToNat, Int.reduceLT, Int.reduceLE, Int.reduceEq, Int.reduceNe, Int.reduceBEq, Int.reduceBNe, Int.reduceAdd, Int.reduceSub, Int.natCast_nonneg, Bool.false_eq_true, Bool.true_eq_false, eq_self]; rfl) (fun h2 => ?_) (fun h2 => ?_)
    · refine AW.seq_k fun K hK => AW.region (by kernel_rfl) ?_
      simp -implicitDefEqProofs only [go_sem, ↓reduceIte, Nat.reduceEqDiff, Nat.reduceLT, Nat.reduceLeDiff, Nat.reduceAdd, Nat.reduceMul, Nat.reduceSub, Nat.reduceBEq, Int.reduceToNat, Int.reduceLT, Int.reduceLE, Int.reduceEq, Int.reduceNe, Int.reduceBEq, Int.reduceBNe, Int.reduceAdd, Int.reduceSub, Int.natCast_nonneg, Bool.false_eq_true, Bool.true_eq_false, eq_self]
      refine hK _ ?_
      clear hK K
      refine AW.ret ?_
      simp -implicitDefEqProofs only [go_sem, ↓reduceIte, Nat.reduceEqDiff, Nat.reduceLT, Nat.reduceLeDiff, Nat.reduceAdd, Nat.reduceMul, Nat.reduceSub, Nat.reduceBEq, Int.reduceToNat, Int.reduceLT, Int.reduceLE, Int.reduceEq, Int.reduceNe, Int.reduceBEq, Int.reduceBNe, Int.reduceAdd, Int.reduceSub, Int.natCast_nonneg, Bool.false_eq_true, Bool.true_eq_false, eq_self]
      refine endK_some ?_
      rfl
    · simp at h2
  | succ f ih =>
  intro c1 c2 l pl h1 h2 h3 h4 hks
  refine Spec.of_code' 0 115 [ResultVar.cell 4 31, .tmp 5, .tmp 6] Try.func26 rfl rfl rfl rfl fun X => ?_
  refine AW.seq_k fun K hK => AW.region (by kernel_rfl) ?_
  simp -implicitDefEqProofs only [go_sem, ↓reduceIte, Nat.reduceEqDiff, Nat.reduceLT, Nat.reduceLeDiff, Nat.reduceAdd, Nat.reduceMul, Nat.reduceSub, Nat.reduceBEq, Int.reduceToNat, Int.reduceLT, Int.reduceLE, Int.reduceEq, Int.reduceNe, Int.reduceBEq, Int.reduceBNe, Int.reduceAdd, Int.reduceSub, Int.natCast_nonneg, Bool.false_eq_true, Bool.true_eq_false, eq_self]
  intro g4
  refine hK _ ?_
  clear hK K
  by_cases hp : pl < 0
  · refine AW.seq_k fun K1 hK1 => ?_
    refine AW.seq_k fun K hK => AW.region (by kernel_rfl) ?_
    simp -implicitDefEqProofs only [go_sem, ↓reduceIte, Nat.reduceEqDiff, Nat.reduceLT, Nat.reduceLeDiff, Nat.reduceAdd, Nat.reduceMul, Nat.reduceSub, Nat.reduceBEq, Int.reduceToNat, Int.reduceLT, Int.reduceLE, Int.reduceEq, Int.reduceNe, Int.reduceBEq, Int.reduceBNe, Int.reduceAdd, Int.reduceSub, Int.natCast_nonneg, Bool.false_eq_true, Bool.true_eq_false, eq_self, decide_eq_true hp]
    refine hK _ ?_
    clear hK K
    refine AW.condS (by simp -implicitDefEqProofs only [go_sem, ↓reduceIte, Nat.reduceEqDiff, Nat.reduceLT, Nat.reduceLeDiff, Nat.reduceAdd, Nat.reduceMul, Nat.reduceSub, Nat.reduceBEq, Int.reduceToNat, Int.reduceLT, Int.reduceLE, Int.reduceEq, Int.reduceNe, Int.reduceBEq, Int.reduceBNe, Int.reduceAdd, Int.reduceSub, Int.natCast_nonneg, Bool.false_eq_true, Bool.true_eq_false, eq_self]; rfl) (fun h2 => ?_) (fun h2 => ?_)
    · refine AW.seq_k fun K hK => AW.region (by kernel_rfl) ?_
      simp -implicitDefEqProofs only [go_sem, ↓reduceIte, Nat.reduceEqDiff, Nat.reduceLT, Nat.reduceLeDiff, Nat.reduceAdd, Nat.reduceMul, Nat.reduceSub, Nat.reduceBEq, Int.reduceToNat, Int.reduceLT, Int.reduceLE, Int.reduceEq, Int.reduceNe, Int.reduceBEq, Int.reduceBNe, Int.reduceAdd, Int.reduceSub, Int.natCast_nonneg, Bool.false_eq_true, Bool.true_eq_false, eq_self]
      refine hK _ ?_
      clear hK K
      refine AW.ret ?_
      simp -implicitDefEqProofs only [go_sem, ↓reduceIte, Nat.reduceEqDiff, Nat.reduceLT, Nat.reduceLeDiff, Nat.reduceAdd, Nat.reduceMul, Nat.reduceSub, Nat.reduceBEq, Int.reduceToNat, Int.reduceLT, Int.reduceLE, Int.reduceEq, Int.reduceNe, Int.reduceBEq, Int.reduceBNe, Int.reduceAdd, Int.reduceSub, Int.natCast_nonneg, Bool.false_eq_true, Bool.true_eq_false, eq_self]
      refine endK_some ?_
      rw [partP, if_pos hp]
      rfl
    · simp at h2
  · obtain ⟨p, rfl⟩ : ∃ p : Nat, pl = p := ⟨pl.toNat, by omega⟩
    refine AW.seq_k fun K1 hK1 => ?_
    refine AW.seq_k fun K hK => AW.region (by kernel_rfl) ?_
    simp -implicitDefEqProofs only [go_sem, ↓reduceIte, Nat.reduceEqDiff, Nat.reduceLT, Nat.reduceLeDiff, Nat.reduceAdd, Nat.reduceMul, Nat.reduceSub, Nat.reduceBEq, Int.reduceToNat, Int.reduceLT, Int.reduceLE, Int.reduceEq, Int.reduceNe, Int.reduceBEq, Int.reduceBNe, Int.reduceAdd, Int.reduceSub, Int.natCast_nonneg, Bool.false_eq_true, Bool.true_eq_false, eq_self, decide_eq_false hp]
    refine hK _ ?_
    clear hK K
    refine AW.condS (by simp -implicitDefEqProofs only [go_sem, ↓reduceIte, Nat.reduceEqDiff, Nat.reduceLT, Nat.reduceLeDiff, Nat.reduceAdd, Nat.reduceMul, Nat.reduceSub, Nat.reduceBEq, Int.reduceToNat, Int.reduceLT, Int.reduceLE, Int.reduceEq, Int.reduceNe, Int.reduceBEq, Int.reduceBNe, Int.reduceAdd, Int.reduceSub, Int.natCast_nonneg, Bool.false_eq_true, Bool.true_eq_false, eq_self]; rfl) (fun h2 => ?_) (fun h2 => ?_)
    · -- true
      have hpl : l.l.length ≤ p := by simp at h2; omega
      refine AW.seq_k fun K hK => AW.region (by kernel_rfl) ?_
      simp -implicitDefEqProofs only [go_sem, ↓reduceIte, Nat.reduceEqDiff, Nat.reduceLT, Nat.reduceLeDiff, Nat.reduceAdd, Nat.reduceMul, Nat.reduceSub, Nat.reduceBEq, Int.reduceToNat, Int.reduceLT, Int.reduceLE, Int.reduceEq, Int.reduceNe, Int.reduceBEq, Int.reduceBNe, Int.reduceAdd, Int.reduceSub, Int.natCast_nonneg, Bool.false_eq_true, Bool.true_eq_false, eq_self]
      refine hK _ ?_
      clear hK K
      refine AW.ret ?_
      simp -implicitDefEqProofs only [go_sem, ↓reduceIte, Nat.reduceEqDiff, Nat.reduceLT, Nat.reduceLeDiff, Nat.reduceAdd, Nat.reduceMul, Nat.reduceSub, Nat.reduceBEq, Int.reduceToNat, Int.reduceLT, Int.reduceLE, Int.reduceEq, Int.reduceNe, Int.reduceBEq, Int.reduceBNe, Int.reduceAdd, Int.reduceSub, Int.natCast_nonneg, Bool.false_eq_true, Bool.true_eq_false, eq_self]
      refine endK_some ?_
      rw [partP, if_neg hp, show (p : Int).toNat = p from rfl, List.getElem?_eq_none hpl]
      rfl
    · -- false
      refine AW.skip ?_
      simp -implicitDefEqProofs only [go_sem, ↓reduceIte, Nat.reduceEqDiff, Nat.reduceLT, Nat.reduceLeDiff, Nat.reduceAdd, Nat.reduceMul, Nat.reduceSub, Nat.reduceBEq, Int.reduceToNat, Int.reduceLT, Int.reduceLE, Int.reduceEq, Int.reduceNe, Int.reduceBEq, Int.reduceBNe, Int.reduceAdd, Int.reduceSub, Int.natCast_nonneg, Bool.false_eq_true, Bool.true_eq_false, eq_self]
      refine hK1 _ ?_
      have hpl : p < l.l.length := by simp at h2; omega
      have hgi := List.getElem?_eq_getElem hpl
      have hnm := List.getElem_mem hpl
      generalize l.l[p] = n at hnm hgi
      have hkl := hks n hnm
      have hP : partP (f + 1) l.l p = if n.op ≥ 3 ∧ n.op ≤ 7 ∧ n.kids.l.length = 0 then (.mk n.op n.pl none [], (p : Int), true)
        else if (n.op ≠ 1 ∧ n.op ≠ 2) ∨ n.kids.l.length < 2 ∨ n.pl ≠ 0 then (Pt.zero, 0, false)
        else match partKs (partP f l.l) n.op n.kids.l.reverse p [] with
          | some (kids, first) => (Pt.of n.op 0 (grownS kids), first, true)
          | none => (Pt.zero, 0, false) := by
        rw [partP, if_neg hp, show (p : Int).toNat = p from rfl, hgi]
      refine AW.seq_k fun K hK => AW.region (by kernel_rfl) ?_
      simp -implicitDefEqProofs only [go_sem, ↓reduceIte, Nat.reduceEqDiff, Nat.reduceLT, Nat.reduceLeDiff, Nat.reduceAdd, Nat.reduceMul, Nat.reduceSub, Nat.reduceBEq, Int.reduceToNat, Int.reduceLT, Int.reduceLE, Int.reduceEq, Int.reduceNe, Int.reduceBEq, Int.reduceBNe, Int.reduceAdd, Int.reduceSub, Int.natCast_nonneg, Bool.false_eq_true, Bool.true_eq_false, eq_self, hgi]
      intro g7
      refine hK _ ?_
      clear hK K
      refine AW.seqJ (fun (_ : Unit) => st [(0, encNds c1 c2 l), (1, .int .i64 p), (4, .ptr 4 g4 0), (7, .ptr 7 g7 0)] [(4, .cells .new g4 0 [.int .u8 0, .int .i64 0, .nils]), (7, .cells .new g7 0 [.int .u8 n.op, .int .i64 n.pl, encSl c2 1 (V.int .i64) n.kids])])
        (fun _ => ¬ (n.op ≥ 3 ∧ n.op ≤ 7 ∧ n.kids.l.length = 0)) (fun K3 hK3 => ?_) ?_
      · by_cases a1 : n.op ≥ 3
        · by_cases a2 : n.op ≤ 7
          · refine AW.seq_k fun K hK => AW.region (by kernel_rfl) ?_
            simp -implicitDefEqProofs only [go_sem, ↓reduceIte, Nat.reduceEqDiff, Nat.reduceLT, Nat.reduceLeDiff, Nat.reduceAdd, Nat.reduceMul, Nat.reduceSub, Nat.reduceBEq, Int.reduceToNat, Int.reduceLT, Int.reduceLE, Int.reduceEq, Int.reduceNe, Int.reduceBEq, Int.reduceBNe, Int.reduceAdd, Int.reduceSub, Int.natCast_nonneg, Bool.false_eq_true, Bool.true_eq_false, eq_self, decide_eq_true a1, decide_eq_true a2]
            refine hK _ ?_
            clear hK K
            refine AW.condS (by simp -implicitDefEqProofs only [go_sem, ↓reduceIte, Nat.reduceEqDiff, Nat.reduceLT, Nat.reduceLeDiff, Nat.reduceAdd, Nat.reduceMul, Nat.reduceSub, Nat.reduceBEq, Int.reduceToNat, Int.reduceLT, Int.reduceLE, Int.reduceEq, Int.reduceNe, Int.reduceBEq, Int.reduceBNe, Int.reduceAdd, Int.reduceSub, Int.natCast_nonneg, Bool.false_eq_true, Bool.true_eq_false, eq_self]; rfl) (fun h4 => ?_) (fun h4 => ?_)
            · have a3 : n.kids.l.length = 0 := by simp at h4; simp [h4]
              refine AW.seq_k fun K hK => AW.region (by kernel_rfl) ?_
              simp -implicitDefEqProofs only [go_sem, ↓reduceIte, Nat.reduceEqDiff, Nat.reduceLT, Nat.reduceLeDiff, Nat.reduceAdd, Nat.reduceMul, Nat.reduceSub, Nat.reduceBEq, Int.reduceToNat, Int.reduceLT, Int.reduceLE, Int.reduceEq, Int.reduceNe, Int.reduceBEq, Int.reduceBNe, Int.reduceAdd, Int.reduceSub, Int.natCast_nonneg, Bool.false_eq_true, Bool.true_eq_false, eq_self]
              refine hK _ ?_
              clear hK K
              refine AW.ret ?_
              simp -implicitDefEqProofs only [go_sem, ↓reduceIte, Nat.reduceEqDiff, Nat.reduceLT, Nat.reduceLeDiff, Nat.reduceAdd, Nat.reduceMul, Nat.reduceSub, Nat.reduceBEq, Int.reduceToNat, Int.reduceLT, Int.reduceLE, Int.reduceEq, Int.reduceNe, Int.reduceBEq, Int.reduceBNe, Int.reduceAdd, Int.reduceSub, Int.natCast_nonneg, Bool.false_eq_true, Bool.true_eq_false, eq_self]
              refine endK_some ?_
              rw [hP, if_pos ⟨a1, a2, a3⟩]
              rfl
            · have a3 : ¬ n.kids.l.length = 0 := by simp at h4; simp [h4]
              refine AW.skip ?_
              simp -implicitDefEqProofs only [go_sem, ↓reduceIte, Nat.reduceEqDiff, Nat.reduceLT, Nat.reduceLeDiff, Nat.reduceAdd, Nat.reduceMul, Nat.reduceSub, Nat.reduceBEq, Int.reduceToNat, Int.reduceLT, Int.reduceLE, Int.reduceEq, Int.reduceNe, Int.reduceBEq, Int.reduceBNe, Int.reduceAdd, Int.reduceSub, Int.natCast_nonneg, Bool.false_eq_true, Bool.true_eq_false, eq_self]
              exact hK3 _ () (fun e => a3 e.2.2) (Weak.st (by simp -implicitDefEqProofs only [go_sem, ↓reduceIte, Nat.reduceEqDiff, Nat.reduceLT, Nat.reduceLeDiff, Nat.reduceAdd, Nat.reduceMul, Nat.reduceSub, Nat.reduceBEq, Int.reduceToNat, Int.reduceLT, Int.reduceLE, Int.reduceEq, Int.reduceNe, Int.reduceBEq, Int.reduceBNe, Int.reduceAdd, Int.reduceSub, Int.natCast_nonneg, Bool.false_eq_true, Bool.true_eq_false, eq_self]) (by simp -implicitDefEqProofs only [go_sem, ↓reduceIte, Nat.reduceEqDiff, Nat.reduceLT, Nat.reduceLeDiff, Nat.reduceAdd, Nat.reduceMul, Nat.reduceSub, Nat.reduceBEq, Int.reduceToNat, Int.reduceLT, Int.reduceLE, Int.reduceEq, Int.reduceNe, Int.reduceBEq, Int.reduceBNe, Int.reduceAdd, Int.reduceSub, Int.natCast_nonneg, Bool.false_eq_true, Bool.true_eq_false, eq_self]))
          · refine AW.seq_k fun K hK => AW.region (by kernel_rfl) ?_
            simp -implicitDefEqProofs only [go_sem, ↓reduceIte, Nat.reduceEqDiff, Nat.reduceLT, Nat.reduceLeDiff, Nat.reduceAdd, Nat.reduceMul, Nat.reduceSub, Nat.reduceBEq, Int.reduceToNat, Int.reduceLT, Int.reduceLE, Int.reduceEq, Int.reduceNe, Int.reduceBEq, Int.reduceBNe, Int.reduceAdd, Int.reduceSub, Int.natCast_nonneg, Bool.false_eq_true, Bool.true_eq_false, eq_self, decide_eq_true a1, decide_eq_false a2]
            refine hK _ ?_
            clear hK K
            refine AW.condS (by simp -implicitDefEqProofs only [go_sem, ↓reduceIte, Nat.reduceEqDiff, Nat.reduceLT, Nat.reduceLeDiff, Nat.reduceAdd, Nat.reduceMul, Nat.reduceSub, Nat.reduceBEq, Int.reduceToNat, Int.reduceLT, Int.reduceLE, Int.reduceEq, Int.reduceNe, Int.reduceBEq, Int.reduceBNe, Int.reduceAdd, Int.reduceSub, Int.natCast_nonneg, Bool.false_eq_true, Bool.true_eq_false, eq_self]; rfl) (fun h4 => ?_) (fun h4 => ?_)
            · simp at h4
            · refine AW.skip ?_
              simp -implicitDefEqProofs only [go_sem, ↓reduceIte, Nat.reduceEqDiff, Nat.reduceLT, Nat.reduceLeDiff, Nat.reduceAdd, Nat.reduceMul, Nat.reduceSub, Nat.reduceBEq, Int.reduceToNat, Int.reduceLT, Int.reduceLE, Int.reduceEq, Int.reduceNe, Int.reduceBEq, Int.reduceBNe, Int.reduceAdd, Int.reduceSub, Int.natCast_nonneg, Bool.false_eq_true, Bool.true_eq_false, eq_self]
              exact hK3 _ () (fun e => a2 e.2.1) (Weak.st (by simp -implicitDefEqProofs only [go_sem, ↓reduceIte, Nat.reduceEqDiff, Nat.reduceLT, Nat.reduceLeDiff, Nat.reduceAdd, Nat.reduceMul, Nat.reduceSub, Nat.reduceBEq, Int.reduceToNat, Int.reduceLT, Int.reduceLE, Int.reduceEq, Int.reduceNe, Int.reduceBEq, Int.reduceBNe, Int.reduceAdd, Int.reduceSub, Int.natCast_nonneg, Bool.false_eq_true, Bool.true_eq_false, eq_self]) (by simp -implicitDefEqProofs only [go_sem, ↓reduceIte, Nat.reduceEqDiff, Nat.reduceLT, Nat.reduceLeDiff, Nat.reduceAdd, Nat.reduceMul, Nat.reduceSub, Nat.reduceBEq, Int.reduceToNat, Int.reduceLT, Int.reduceLE, Int.reduceEq, Int.reduceNe, Int.reduceBEq, Int.reduceBNe, Int.reduceAdd, Int.reduceSub, Int.natCast_nonneg, Bool.false_eq_true, Bool.true_eq_false, eq_self]))
        · refine AW.seq_k fun K hK => AW.region (by kernel_rfl) ?_
          simp -implicitDefEqProofs only [go_sem, ↓reduceIte, Nat.reduceEqDiff, Nat.reduceLT, Nat.reduceLeDiff, Nat.reduceAdd, Nat.reduceMul, Nat.reduceSub, Nat.reduceBEq, Int.reduceToNat, Int.reduceLT, Int.reduceLE, Int.reduceEq, Int.reduceNe, Int.reduceBEq, Int.reduceBNe, Int.reduceAdd, Int.reduceSub, Int.natCast_nonneg, Bool.false_eq_true, Bool.true_eq_false, eq_self, decide_eq_false a1]
          refine hK _ ?_
          clear hK K
          refine AW.condS (by simp -implicitDefEqProofs only [go_sem, ↓reduceIte, Nat.reduceEqDiff, Nat.reduceLT, Nat.reduceLeDiff, Nat.reduceAdd, Nat.reduceMul, Nat.reduceSub, Nat.reduceBEq, Int.reduceToNat, Int.reduceLT, Int.reduceLE, Int.reduceEq, Int.reduceNe, Int.reduceBEq, Int.reduceBNe, Int.reduceAdd, Int.reduceSub, Int.natCast_nonneg, Bool.false_eq_true, Bool.true_eq_false, eq_self]; rfl) (fun h4 => ?_) (fun h4 => ?_)
          · simp at h4
          · refine AW.skip ?_
            simp -implicitDefEqProofs only [go_sem, ↓reduceIte, Nat.reduceEqDiff, Nat.reduceLT, Nat.reduceLeDiff, Nat.reduceAdd, Nat.reduceMul, Nat.reduceSub, Nat.reduceBEq, Int.reduceToNat, Int.reduceLT, Int.reduceLE, Int.reduceEq, Int.reduceNe, Int.reduceBEq, Int.reduceBNe, Int.reduceAdd, Int.reduceSub, Int.natCast_nonneg, Bool.false_eq_true, Bool.true_eq_false, eq_self]
            exact hK3 _ () (fun e => a1 e.1) (Weak.st (by simp -implicitDefEqProofs only [go_sem, ↓reduceIte, Nat.reduceEqDiff, Nat.reduceLT, Nat.reduceLeDiff, Nat.reduceAdd, Nat.reduceMul, Nat.reduceSub, Nat.reduceBEq, Int.reduceToNat, Int.reduceLT, Int.reduceLE, Int.reduceEq, Int.reduceNe, Int.reduceBEq, Int.reduceBNe, Int.reduceAdd, Int.reduceSub, Int.natCast_nonneg, Bool.false_eq_true, Bool.true_eq_false, eq_self]) (by simp -implicitDefEqProofs only [go_sem, ↓reduceIte, Nat.reduceEqDiff, Nat.reduceLT, Nat.reduceLeDiff, Nat.reduceAdd, Nat.reduceMul, Nat.reduceSub, Nat.reduceBEq, Int.reduceToNat, Int.reduceLT, Int.reduceLE, Int.reduceEq, Int.reduceNe, Int.reduceBEq, Int.reduceBNe, Int.reduceAdd, Int.reduceSub, Int.natCast_nonneg, Bool.false_eq_true, Bool.true_eq_false, eq_self]))
      · intro _ hnl
        rw [if_neg hnl] at hP
        refine AW.seqJ (fun (_ : Unit) => st [(0, encNds c1 c2 l), (1, .int .i64 p), (4, .ptr 4 g4 0), (7, .ptr 7 g7 0)] [(4, .cells .new g4 0 [.int .u8 0, .int .i64 0, .nils]), (7, .cells .new g7 0 [.int .u8 n.op, .int .i64 n.pl, encSl c2 1 (V.int .i64) n.kids])])
          (fun _ => ¬ ((n.op ≠ 1 ∧ n.op ≠ 2) ∨ n.kids.l.length < 2 ∨ n.pl ≠ 0)) (fun K3 hK3 => ?_) ?_
        · have bad : ((n.op ≠ 1 ∧ n.op ≠ 2) ∨ n.kids.l.length < 2 ∨ n.pl ≠ 0) → V.tuple [encPt .any Pt.zero, .int .i64 0, .bool false] = encPr .any (partP (f + 1) l.l p) := by
            intro hb
            rw [hP, if_pos hb]
            rfl
          have two : (n.op = 1 ∨ n.op = 2) ∨ (n.op ≠ 1 ∧ n.op ≠ 2) := by omega
          rcases two with two | ⟨a1, a2⟩
          · have fin : ∀ b, (n.op = 1 ∧ b = bne_f (a := n.op) (b := 1)) ∨ True := fun _ => .inr trivial
            by_cases a3 : n.kids.l.length < 2
            · rcases two with a1 | a1
              · refine AW.seq_k fun K hK => AW.region (by kernel_rfl) ?_
                simp -implicitDefEqProofs only [go_sem, ↓reduceIte, Nat.reduceEqDiff, Nat.reduceLT, Nat.reduceLeDiff, Nat.reduceAdd, Nat.reduceMul, Nat.reduceSub, Nat.reduceBEq, Int.reduceToNat, Int.reduceLT, Int.reduceLE, Int.reduceEq, Int.reduceNe, Int.reduceBEq, Int.reduceBNe, Int.reduceAdd, Int.reduceSub, Int.natCast_nonneg, Bool.false_eq_true, Bool.true_eq_false, eq_self, bne_f a1, decide_eq_true (show (n.kids.l.length : Int) < 2 by omega)]
                refine hK _ ?_
                clear hK K
                refine AW.condS (by simp -implicitDefEqProofs only [go_sem, ↓reduceIte, Nat.reduceEqDiff, Nat.reduceLT, Nat.reduceLeDiff, Nat.reduceAdd, Nat.reduceMul, Nat.reduceSub, Nat.reduceBEq, Int.reduceToNat, Int.reduceLT, Int.reduceLE, Int.reduceEq, Int.reduceNe, Int.reduceBEq, Int.reduceBNe, Int.reduceAdd, Int.reduceSub, Int.natCast_nonneg, Bool.false_eq_true, Bool.true_eq_false, eq_self]; rfl) (fun h5 => ?_) (fun h5 => ?_)
                · refine AW.seq_k fun K hK => AW.region (by kernel_rfl) ?_
                  simp -implicitDefEqProofs only [go_sem, ↓reduceIte, Nat.reduceEqDiff, Nat.reduceLT, Nat.reduceLeDiff, Nat.reduceAdd, Nat.reduceMul, Nat.reduceSub, Nat.reduceBEq, Int.reduceToNat, Int.reduceLT, Int.reduceLE, Int.reduceEq, Int.reduceNe, Int.reduceBEq, Int.reduceBNe, Int.reduceAdd, Int.reduceSub, Int.natCast_nonneg, Bool.false_eq_true, Bool.true_eq_false, eq_self]
                  refine hK _ ?_
                  clear hK K
                  refine AW.ret ?_
                  simp -implicitDefEqProofs only [go_sem, ↓reduceIte, Nat.reduceEqDiff, Nat.reduceLT, Nat.reduceLeDiff, Nat.reduceAdd, Nat.reduceMul, Nat.reduceSub, Nat.reduceBEq, Int.reduceToNat, Int.reduceLT, Int.reduceLE, Int.reduceEq, Int.reduceNe, Int.reduceBEq, Int.reduceBNe, Int.reduceAdd, Int.reduceSub, Int.natCast_nonneg, Bool.false_eq_true, Bool.true_eq_false, eq_self]
                  refine endK_some ?_
                  exact bad (.inr (.inl a3))
                · simp at h5
              · refine AW.seq_k fun K hK => AW.region (by kernel_rfl) ?_
                simp -implicitDefEqProofs only [go_sem, ↓reduceIte, Nat.reduceEqDiff, Nat.reduceLT, Nat.reduceLeDiff, Nat.reduceAdd, Nat.reduceMul, Nat.reduceSub, Nat.reduceBEq, Int.reduceToNat, Int.reduceLT, Int.reduceLE, Int.reduceEq, Int.reduceNe, Int.reduceBEq, Int.reduceBNe, Int.reduceAdd, Int.reduceSub, Int.natCast_nonneg, Bool.false_eq_true, Bool.true_eq_false, eq_self, bne_t (show ¬ n.op = 1 by omega), bne_f a1, decide_eq_true (show (n.kids.l.length : Int) < 2 by omega)]
                refine hK _ ?_
                clear hK K
                refine AW.condS (by simp -implicitDefEqProofs only [go_sem, ↓reduceIte, Nat.reduceEqDiff, Nat.reduceLT, Nat.reduceLeDiff, Nat.reduceAdd, Nat.reduceMul, Nat.reduceSub, Nat.reduceBEq, Int.reduceToNat, Int.reduceLT, Int.reduceLE, Int.reduceEq, Int.reduceNe, Int.reduceBEq, Int.reduceBNe, Int.reduceAdd, Int.reduceSub, Int.natCast_nonneg, Bool.false_eq_true, Bool.true_eq_false, eq_self]; rfl) (fun h5 => ?_) (fun h5 => ?_)
                · refine AW.seq_k fun K hK => AW.region (by kernel_rfl) ?_
                  simp -implicitDefEqProofs only [go_sem, ↓reduceIte, Nat.reduceEqDiff, Nat.reduceLT, Nat.reduceLeDiff, Nat.reduceAdd, Nat.reduceMul, Nat.reduceSub, Nat.reduceBEq, Int.reduceToNat, Int.reduceLT, Int.reduceLE, Int.reduceEq, Int.reduceNe, Int.reduceBEq, Int.reduceBNe, Int.reduceAdd, Int.reduceSub, Int.natCast_nonneg, Bool.false_eq_true, Bool.true_eq_false, eq_self]
                  refine hK _ ?_
                  clear hK K
                  refine AW.ret ?_
                  simp -implicitDefEqProofs only [go_sem, ↓reduceIte, Nat.reduceEqDiff, Nat.reduceLT, Nat.reduceLeDiff, Nat.reduceAdd, Nat.reduceMul, Nat.reduceSub, Nat.reduceBEq, Int.reduceToNat, Int.reduceLT, Int.reduceLE, Int.reduceEq, Int.reduceNe, Int.reduceBEq, Int.reduceBNe, Int.reduceAdd, Int.reduceSub, Int.natCast_nonneg, Bool.false_eq_true, Bool.true_eq_false, eq_self]
                  refine endK_some ?_
                  exact bad (.inr (.inl a3))
                · simp at h5
            · rcases two with a1 | a1
              · refine AW.seq_k fun K hK => AW.region (by kernel_rfl) ?_
                simp -implicitDefEqProofs only [go_sem, ↓reduceIte, Nat.reduceEqDiff, Nat.reduceLT, Nat.reduceLeDiff, Nat.reduceAdd, Nat.reduceMul, Nat.reduceSub, Nat.reduceBEq, Int.reduceToNat, Int.reduceLT, Int.reduceLE, Int.reduceEq, Int.reduceNe, Int.reduceBEq, Int.reduceBNe, Int.reduceAdd, Int.reduceSub, Int.natCast_nonneg, Bool.false_eq_true, Bool.true_eq_false, eq_self, bne_f a1, decide_eq_false (show ¬ (n.kids.l.length : Int) < 2 by omega)]
                refine hK _ ?_
                clear hK K
                refine AW.condS (by simp -implicitDefEqProofs only [go_sem, ↓reduceIte, Nat.reduceEqDiff, Nat.reduceLT, Nat.reduceLeDiff, Nat.reduceAdd, Nat.reduceMul, Nat.reduceSub, Nat.reduceBEq, Int.reduceToNat, Int.reduceLT, Int.reduceLE, Int.reduceEq, Int.reduceNe, Int.reduceBEq, Int.reduceBNe, Int.reduceAdd, Int.reduceSub, Int.natCast_nonneg, Bool.false_eq_true, Bool.true_eq_false, eq_self]; rfl) (fun h5 => ?_) (fun h5 => ?_)
                · have a4 : n.pl ≠ 0 := by simpa using h5
                  refine AW.seq_k fun K hK => AW.region (by kernel_rfl) ?_
                  simp -implicitDefEqProofs only [go_sem, ↓reduceIte, Nat.reduceEqDiff, Nat.reduceLT, Nat.reduceLeDiff, Nat.reduceAdd, Nat.reduceMul, Nat.reduceSub, Nat.reduceBEq, Int.reduceToNat, Int.reduceLT, Int.reduceLE, Int.reduceEq, Int.reduceNe, Int.reduceBEq, Int.reduceBNe, Int.reduceAdd, Int.reduceSub, Int.natCast_nonneg, Bool.false_eq_true, Bool.true_eq_false, eq_self]
                  refine hK _ ?_
                  clear hK K
                  refine AW.ret ?_
                  simp -implicitDefEqProofs only [go_sem, ↓reduceIte, Nat.reduceEqDiff, Nat.reduceLT, Nat.reduceLeDiff, Nat.reduceAdd, Nat.reduceMul, Nat.reduceSub, Nat.reduceBEq, Int.reduceToNat, Int.reduceLT, Int.reduceLE, Int.reduceEq, Int.reduceNe, Int.reduceBEq, Int.reduceBNe, Int.reduceAdd, Int.reduceSub, Int.natCast_nonneg, Bool.false_eq_true, Bool.true_eq_false, eq_self]
                  refine endK_some ?_
                  exact bad (.inr (.inr a4))
                · have a4 : n.pl = 0 := by simpa using h5
                  refine AW.skip ?_
                  simp -implicitDefEqProofs only [go_sem, ↓reduceIte, Nat.reduceEqDiff, Nat.reduceLT, Nat.reduceLeDiff, Nat.reduceAdd, Nat.reduceMul, Nat.reduceSub, Nat.reduceBEq, Int.reduceToNat, Int.reduceLT, Int.reduceLE, Int.reduceEq, Int.reduceNe, Int.reduceBEq, Int.reduceBNe, Int.reduceAdd, Int.reduceSub, Int.natCast_nonneg, Bool.false_eq_true, Bool.true_eq_false, eq_self]
                  exact hK3 _ () (by omega) (Weak.st (by simp -implicitDefEqProofs only [go_sem, ↓reduceIte, Nat.reduceEqDiff, Nat.reduceLT, Nat.reduceLeDiff, Nat.reduceAdd, Nat.reduceMul, Nat.reduceSub, Nat.reduceBEq, Int.reduceToNat, Int.reduceLT, Int.reduceLE, Int.reduceEq, Int.reduceNe, Int.reduceBEq, Int.reduceBNe, Int.reduceAdd, Int.reduceSub, Int.natCast_nonneg, Bool.false_eq_true, Bool.true_eq_false, eq_self]) (by simp -implicitDefEqProofs only [go_sem, ↓reduceIte, Nat.reduceEqDiff, Nat.reduceLT, Nat.reduceLeDiff, Nat.reduceAdd, Nat.reduceMul, Nat.reduceSub, Nat.reduceBEq, Int.reduceToNat, Int.reduceLT, Int.reduceLE, Int.reduceEq, Int.reduceNe, Int.reduceBEq, Int.reduceBNe, Int.reduceAdd, Int.reduceSub, Int.natCast_nonneg, Bool.false_eq_true, Bool.true_eq_false, eq_self]))
              · refine AW.seq_k fun K hK => AW.region (by kernel_rfl) ?_
                simp -implicitDefEqProofs only [go_sem, ↓reduceIte, Nat.reduceEqDiff, Nat.reduceLT, Nat.reduceLeDiff, Nat.reduceAdd, Nat.reduceMul, Nat.reduceSub, Nat.reduceBEq, Int.reduceToNat, Int.reduceLT, Int.reduceLE, Int.reduceEq, Int.reduceNe, Int.reduceBEq, Int.reduceBNe, Int.reduceAdd, Int.reduceSub, Int.natCast_nonneg, Bool.false_eq_true, Bool.true_eq_false, eq_self, bne_t (show ¬ n.op = 1 by omega), bne_f a1, decide_eq_false (show ¬ (n.kids.l.length : Int) < 2 by omega)]
                refine hK _ ?_
                clear hK K
                refine AW.condS (by simp -implicitDefEqProofs only [go_sem, ↓reduceIte, Nat.reduceEqDiff, Nat.reduceLT, Nat.reduceLeDiff, Nat.reduceAdd, Nat.reduceMul, Nat.reduceSub, Nat.reduceBEq, Int.reduceToNat, Int.reduceLT, Int.reduceLE, Int.reduceEq, Int.reduceNe, Int.reduceBEq, Int.reduceBNe, Int.reduceAdd, Int.reduceSub, Int.natCast_nonneg, Bool.false_eq_true, Bool.true_eq_false, eq_self]; rfl) (fun h5 => ?_) (fun h5 => ?_)
                · have a4 : n.pl ≠ 0 := by simpa using h5
                  refine AW.seq_k fun K hK => AW.region (by kernel_rfl) ?_
                  simp -implicitDefEqProofs only [go_sem, ↓reduceIte, Nat.reduceEqDiff, Nat.reduceLT, Nat.reduceLeDiff, Nat.reduceAdd, Nat.reduceMul, Nat.reduceSub, Nat.reduceBEq, Int.reduceToNat, Int.reduceLT, Int.reduceLE, Int.reduceEq, Int.reduceNe, Int.reduceBEq, Int.reduceBNe, Int.reduceAdd, Int.reduceSub, Int.natCast_nonneg, Bool.false_eq_true, Bool.true_eq_false, eq_self]
                  refine hK _ ?_
                  clear hK K
                  refine AW.ret ?_
                  simp -implicitDefEqProofs only [go_sem, ↓reduceIte, Nat.reduceEqDiff, Nat.reduceLT, Nat.reduceLeDiff, Nat.reduceAdd, Nat.reduceMul, Nat.reduceSub, Nat.reduceBEq, Int.reduceToNat, Int.reduceLT, Int.reduceLE, Int.reduceEq, Int.reduceNe, Int.reduceBEq, Int.reduceBNe, Int.reduceAdd, Int.reduceSub, Int.natCast_nonneg, Bool.false_eq_true, Bool.true_eq_false, eq_self]
                  refine endK_some ?_
                  exact bad (.inr (.inr a4))
                · have a4 : n.pl = 0 := by simpa using h5
                  refine AW.skip ?_
                  simp -implicitDefEqProofs only [go_sem, ↓reduceIte, Nat.reduceEqDiff, Nat.reduceLT, Nat.reduceLeDiff, Nat.reduceAdd, Nat.reduceMul, Nat.reduceSub, Nat.reduceBEq, Int.reduceToNat, Int.reduceLT, Int.reduceLE, Int.reduceEq, Int.reduceNe, Int.reduceBEq, Int.reduceBNe, Int.reduceAdd, Int.reduceSub, Int.natCast_nonneg, Bool.false_eq_true, Bool.true_eq_false, eq_self]
                  exact hK3 _ () (by omega) (Weak.st (by simp -implicitDefEqProofs only [go_sem, ↓reduceIte, Nat.reduceEqDiff, Nat.reduceLT, Nat.reduceLeDiff, Nat.reduceAdd, Nat.reduceMul, Nat.reduceSub, Nat.reduceBEq, Int.reduceToNat, Int.reduceLT, Int.reduceLE, Int.reduceEq, Int.reduceNe, Int.reduceBEq, Int.reduceBNe, Int.reduceAdd, Int.reduceSub, Int.natCast_nonneg, Bool.false_eq_true, Bool.true_eq_false, eq_self]) (by simp -implicitDefEqProofs only [go_sem, ↓reduceIte, Nat.reduceEqDiff, Nat.reduceLT, Nat.reduceLeDiff, Nat.reduceAdd, Nat.reduceMul, Nat.reduceSub, Nat.reduceBEq, Int.reduceToNat, Int.reduceLT, Int.reduceLE, Int.reduceEq, Int.reduceNe, Int.reduceBEq, Int.reduceBNe, Int.reduceAdd, Int.reduceSub, Int.natCast_nonneg, Bool.false_eq_true, Bool.true_eq_false, eq_self]))
          · refine AW.seq_k fun K hK => AW.region (by kernel_rfl) ?_
            simp -implicitDefEqProofs only [go_sem, ↓reduceIte, Nat.reduceEqDiff, Nat.reduceLT, Nat.reduceLeDiff, Nat.reduceAdd, Nat.reduceMul, Nat.reduceSub, Nat.reduceBEq, Int.reduceToNat, Int.reduceLT, Int.reduceLE, Int.reduceEq, Int.reduceNe, Int.reduceBEq, Int.reduceBNe, Int.reduceAdd, Int.reduceSub, Int.natCast_nonneg, Bool.false_eq_true, Bool.true_eq_false, eq_self, bne_t a1, bne_t a2]
            refine hK _ ?_
            clear hK K
            refine AW.condS (by simp -implicitDefEqProofs only [go_sem, ↓reduceIte, Nat.reduceEqDiff, Nat.reduceLT, Nat.reduceLeDiff, Nat.reduceAdd, Nat.reduceMul, Nat.reduceSub, Nat.reduceBEq, Int.reduceToNat, Int.reduceLT, Int.reduceLE, Int.reduceEq, Int.reduceNe, Int.reduceBEq, Int.reduceBNe, Int.reduceAdd, Int.reduceSub, Int.natCast_nonneg, Bool.false_eq_true, Bool.true_eq_false, eq_self]; rfl) (fun h5 => ?_) (fun h5 => ?_)
            · refine AW.seq_k fun K hK => AW.region (by kernel_rfl) ?_
              simp -implicitDefEqProofs only [go_sem, ↓reduceIte, Nat.reduceEqDiff, Nat.reduceLT, Nat.reduceLeDiff, Nat.reduceAdd, Nat.reduceMul, Nat.reduceSub, Nat.reduceBEq, Int.reduceToNat, Int.reduceLT, Int.reduceLE, Int.reduceEq, Int.reduceNe, Int.reduceBEq, Int.reduceBNe, Int.reduceAdd, Int.reduceSub, Int.natCast_nonneg, Bool.false_eq_true, Bool.true_eq_false, eq_self]
              refine hK _ ?_
              clear hK K
              refine AW.ret ?_
              simp -implicitDefEqProofs only [go_sem, ↓reduceIte, Nat.reduceEqDiff, Nat.reduceLT, Nat.reduceLeDiff, Nat.reduceAdd, Nat.reduceMul, Nat.reduceSub, Nat.reduceBEq, Int.reduceToNat, Int.reduceLT, Int.reduceLE, Int.reduceEq, Int.reduceNe, Int.reduceBEq, Int.reduceBNe, Int.reduceAdd, Int.reduceSub, Int.natCast_nonneg, Bool.false_eq_true, Bool.true_eq_false, eq_self]
              refine endK_some ?_
              exact bad (.inl ⟨a1, a2⟩)
            · simp at h5
        · intro _ hin
          rw [if_neg hin] at hP
          refine AW.seq_k fun K hK => AW.region (by kernel_rfl) ?_
          simp -implicitDefEqProofs only [go_sem, ↓reduceIte, Nat.reduceEqDiff, Nat.reduceLT, Nat.reduceLeDiff, Nat.reduceAdd, Nat.reduceMul, Nat.reduceSub, Nat.reduceBEq, Int.reduceToNat, Int.reduceLT, Int.reduceLE, Int.reduceEq, Int.reduceNe, Int.reduceBEq, Int.reduceBNe, Int.reduceAdd, Int.reduceSub, Int.natCast_nonneg, Bool.false_eq_true, Bool.true_eq_false, eq_self]
          refine hK _ ?_
          clear hK K
          refine AW.seq_k fun K hK => AW.region (by kernel_rfl) ?_
          simp -implicitDefEqProofs only [go_sem, ↓reduceIte, Nat.reduceEqDiff, Nat.reduceLT, Nat.reduceLeDiff, Nat.reduceAdd, Nat.reduceMul, Nat.reduceSub, Nat.reduceBEq, Int.reduceToNat, Int.reduceLT, Int.reduceLE, Int.reduceEq, Int.reduceNe, Int.reduceBEq, Int.reduceBNe, Int.reduceAdd, Int.reduceSub, Int.natCast_nonneg, Bool.false_eq_true, Bool.true_eq_false, eq_self]
          refine hK _ ?_
          clear hK K
          refine AW.seq_k fun K7 hK7 => ?_
          refine AW.seq_k fun K hK => AW.region (by kernel_rfl) ?_
          simp -implicitDefEqProofs only [go_sem, ↓reduceIte, Nat.reduceEqDiff, Nat.reduceLT, Nat.reduceLeDiff, Nat.reduceAdd, Nat.reduceMul, Nat.reduceSub, Nat.reduceBEq, Int.reduceToNat, Int.reduceLT, Int.reduceLE, Int.reduceEq, Int.reduceNe, Int.reduceBEq, Int.reduceBNe, Int.reduceAdd, Int.reduceSub, Int.natCast_nonneg, Bool.false_eq_true, Bool.true_eq_false, eq_self]
          refine hK _ ?_
          clear hK K
          refine AW.block ?_
          refine AW.for n.kids.l.length (fun k (x : List Pt × Int) => st [(0, encNds c1 c2 l), (1, .int .i64 p), (4, .ptr 4 g4 0), (7, .ptr 7 g7 0), (8, encSl .any 3 (encPt .any) (grownS x.1)), (9, .int .i64 x.2), (10, .int .i64 ((n.kids.l.length : Int) - 1 - k))]
              [(4, .cells .new g4 0 [.int .u8 0, .int .i64 0, .nils]), (7, .cells .new g7 0 [.int .u8 n.op, .int .i64 n.pl, encSl c2 1 (V.int .i64) n.kids])])
            (fun k x => partKs (partP f l.l) n.op n.kids.l.reverse p [] = partKs (partP f l.l) n.op (n.kids.l.reverse.drop k) x.2 x.1 ∧ 0 ≤ x.2 ∧ x.2 ≤ p ∧ x.1.length = k) 0 ([], (p : Int)) (Nat.zero_le _) (by simp)
            (Weak.st (by simp -implicitDefEqProofs only [go_sem, ↓reduceIte, Nat.reduceEqDiff, Nat.reduceLT, Nat.reduceLeDiff, Nat.reduceAdd, Nat.reduceMul, Nat.reduceSub, Nat.reduceBEq, Int.reduceToNat, Int.reduceLT, Int.reduceLE, Int.reduceEq, Int.reduceNe, Int.reduceBEq, Int.reduceBNe, Int.reduceAdd, Int.reduceSub, Int.natCast_nonneg, Bool.false_eq_true, Bool.true_eq_false, eq_self]; simp [w64 (n := (n.kids.l.length : Int) - 1) (by omega) (by omega)]; rfl) (by simp -implicitDefEqProofs only [go_sem, ↓reduceIte, Nat.reduceEqDiff, Nat.reduceLT, Nat.reduceLeDiff, Nat.reduceAdd, Nat.reduceMul, Nat.reduceSub, Nat.reduceBEq, Int.reduceToNat, Int.reduceLT, Int.reduceLE, Int.reduceEq, Int.reduceNe, Int.reduceBEq, Int.reduceBNe, Int.reduceAdd, Int.reduceSub, Int.natCast_nonneg, Bool.false_eq_true, Bool.true_eq_false, eq_self])) ?_
          rintro k ⟨acc, first⟩ hk ⟨hR, hf0, hfp, hal⟩ L8 hL8
          refine AW.seq_k fun K9 hK9 => ?_
          refine AW.seq_k fun K hK => AW.region (by kernel_rfl) ?_
          simp -implicitDefEqProofs only [go_sem, ↓reduceIte, Nat.reduceEqDiff, Nat.reduceLT, Nat.reduceLeDiff, Nat.reduceAdd, Nat.reduceMul, Nat.reduceSub, Nat.reduceBEq, Int.reduceToNat, Int.reduceLT, Int.reduceLE, Int.reduceEq, Int.reduceNe, Int.reduceBEq, Int.reduceBNe, Int.reduceAdd, Int.reduceSub, Int.natCast_nonneg, Bool.false_eq_true, Bool.true_eq_false, eq_self]
          refine hK _ ?_
          clear hK K
          refine AW.condS (by simp -implicitDefEqProofs only [go_sem, ↓reduceIte, Nat.reduceEqDiff, Nat.reduceLT, Nat.reduceLeDiff, Nat.reduceAdd, Nat.reduceMul, Nat.reduceSub, Nat.reduceBEq, Int.reduceToNat, Int.reduceLT, Int.reduceLE, Int.reduceEq, Int.reduceNe, Int.reduceBEq, Int.reduceBNe, Int.reduceAdd, Int.reduceSub, Int.natCast_nonneg, Bool.false_eq_true, Bool.true_eq_false, eq_self]; rfl) (fun h10 => ?_) (fun h10 => ?_)
          · -- true
            refine AW.skip ?_
            simp -implicitDefEqProofs only [go_sem, ↓reduceIte, Nat.reduceEqDiff, Nat.reduceLT, Nat.reduceLeDiff, Nat.reduceAdd, Nat.reduceMul, Nat.reduceSub, Nat.reduceBEq, Int.reduceToNat, Int.reduceLT, Int.reduceLE, Int.reduceEq, Int.reduceNe, Int.reduceBEq, Int.reduceBNe, Int.reduceAdd, Int.reduceSub, Int.natCast_nonneg, Bool.false_eq_true, Bool.true_eq_false, eq_self]
            refine hK9 _ ?_
            have hk1 : k < n.kids.l.length := by simp at h10; omega
            have hidx : (n.kids.l.length : Int) - 1 - k = ((n.kids.l.length - 1 - k : Nat) : Int) := by omega
            have hlt : n.kids.l.length - 1 - k < n.kids.l.length := by omega
            have hgk := List.getElem?_eq_getElem hlt
            have hkr : k < n.kids.l.reverse.length := by simpa using hk1
            have hrk : n.kids.l.reverse[k] = n.kids.l[n.kids.l.length - 1 - k] := List.getElem_reverse _
            rw [List.drop_eq_getElem_cons hkr, hrk, partKs] at hR
            have hw : IntKind.i64.wrap (first - 1) = first - 1 := w64 (by omega) (by omega)
            generalize n.kids.l[n.kids.l.length - 1 - k] = kv at hgk hR
            refine AW.seq_k fun K11 hK11 => ?_
            refine AW.block ?_
            refine AW.seq_k fun K12 hK12 => ?_
            refine AW.seq_k fun K hK => AW.region (by kernel_rfl) ?_
            simp -implicitDefEqProofs only [go_sem, ↓reduceIte, Nat.reduceEqDiff, Nat.reduceLT, Nat.reduceLeDiff, Nat.reduceAdd, Nat.reduceMul, Nat.reduceSub, Nat.reduceBEq, Int.reduceToNat, Int.reduceLT, Int.reduceLE, Int.reduceEq, Int.reduceNe, Int.reduceBEq, Int.reduceBNe, Int.reduceAdd, Int.reduceSub, Int.natCast_nonneg, Bool.false_eq_true, Bool.true_eq_false, eq_self, hidx, hgk, hw]
            refine hK _ ?_
            clear hK K
            refine AW.condS (by simp -implicitDefEqProofs only [go_sem, ↓reduceIte, Nat.reduceEqDiff, Nat.reduceLT, Nat.reduceLeDiff, Nat.reduceAdd, Nat.reduceMul, Nat.reduceSub, Nat.reduceBEq, Int.reduceToNat, Int.reduceLT, Int.reduceLE, Int.reduceEq, Int.reduceNe, Int.reduceBEq, Int.reduceBNe, Int.reduceAdd, Int.reduceSub, Int.natCast_nonneg, Bool.false_eq_true, Bool.true_eq_false, eq_self]; rfl) (fun h13 => ?_) (fun h13 => ?_)
            · -- true
              refine AW.seq_k fun K hK => AW.region (by kernel_rfl) ?_
              simp -implicitDefEqProofs only [go_sem, ↓reduceIte, Nat.reduceEqDiff, Nat.reduceLT, Nat.reduceLeDiff, Nat.reduceAdd, Nat.reduceMul, Nat.reduceSub, Nat.reduceBEq, Int.reduceToNat, Int.reduceLT, Int.reduceLE, Int.reduceEq, Int.reduceNe, Int.reduceBEq, Int.reduceBNe, Int.reduceAdd, Int.reduceSub, Int.natCast_nonneg, Bool.false_eq_true, Bool.true_eq_false, eq_self]
              refine hK _ ?_
              clear hK K
              refine AW.ret ?_
              simp -implicitDefEqProofs only [go_sem, ↓reduceIte, Nat.reduceEqDiff, Nat.reduceLT, Nat.reduceLeDiff, Nat.reduceAdd, Nat.reduceMul, Nat.reduceSub, Nat.reduceBEq, Int.reduceToNat, Int.reduceLT, Int.reduceLE, Int.reduceEq, Int.reduceNe, Int.reduceBEq, Int.reduceBNe, Int.reduceAdd, Int.reduceSub, Int.natCast_nonneg, Bool.false_eq_true, Bool.true_eq_false, eq_self]
              refine endK_some ?_
              rw [if_pos (by simpa using h13)] at hR
              rw [hP, hR]
              rfl
            · -- false
              refine AW.skip ?_
              simp -implicitDefEqProofs only [go_sem, ↓reduceIte, Nat.reduceEqDiff, Nat.reduceLT, Nat.reduceLeDiff, Nat.reduceAdd, Nat.reduceMul, Nat.reduceSub, Nat.reduceBEq, Int.reduceToNat, Int.reduceLT, Int.reduceLE, Int.reduceEq, Int.reduceNe, Int.reduceBEq, Int.reduceBNe, Int.reduceAdd, Int.reduceSub, Int.natCast_nonneg, Bool.false_eq_true, Bool.true_eq_false, eq_self]
              refine hK12 _ ?_
              rw [if_neg (by simpa using h13)] at hR
              have hfst := partP_first f l.l (first - 1)
              refine AW.seq_k fun K hK => AW.region (by kernel_rfl) ?_
              simp -implicitDefEqProofs only [go_sem, ↓reduceIte, Nat.reduceEqDiff, Nat.reduceLT, Nat.reduceLeDiff, Nat.reduceAdd, Nat.reduceMul, Nat.reduceSub, Nat.reduceBEq, Int.reduceToNat, Int.reduceLT, Int.reduceLE, Int.reduceEq, Int.reduceNe, Int.reduceBEq, Int.reduceBNe, Int.reduceAdd, Int.reduceSub, Int.natCast_nonneg, Bool.false_eq_true, Bool.true_eq_false, eq_self, hw]
              refine CallA.pure hG (by kernel_rfl) ?_
              simp -implicitDefEqProofs only [go_sem, ↓reduceIte, Nat.reduceEqDiff, Nat.reduceLT, Nat.reduceLeDiff, Nat.reduceAdd, Nat.reduceMul, Nat.reduceSub, Nat.reduceBEq, Int.reduceToNat, Int.reduceLT, Int.reduceLE, Int.reduceEq, Int.reduceNe, Int.reduceBEq, Int.reduceBNe, Int.reduceAdd, Int.reduceSub, Int.natCast_nonneg, Bool.false_eq_true, Bool.true_eq_false, eq_self]
              refine (ih _ _ l (first - 1) (by omega) (by omega) (by omega) h4 hks).mono ?_
              rintro _ _ rfl
              generalize partP f l.l (first - 1) = r at hR hfst
              simp only [encPr]
              simp -implicitDefEqProofs only [go_sem, ↓reduceIte, Nat.reduceEqDiff, Nat.reduceLT, Nat.reduceLeDiff, Nat.reduceAdd, Nat.reduceMul, Nat.reduceSub, Nat.reduceBEq, Int.reduceToNat, Int.reduceLT, Int.reduceLE, Int.reduceEq, Int.reduceNe, Int.reduceBEq, Int.reduceBNe, Int.reduceAdd, Int.reduceSub, Int.natCast_nonneg, Bool.false_eq_true, Bool.true_eq_false, eq_self]
              intro g11
              refine hK _ ?_
              clear hK K
              have bad : (r.2.2 = false ∨ r.1.op = n.op) → V.tuple [encPt .any Pt.zero, .int .i64 0, .bool false] = encPr .any (partP (f + 1) l.l p) := by
                intro hb
                rw [if_pos hb] at hR
                rw [hP, hR]
                rfl
              refine AW.seqJ (fun (_ : Unit) => st [(0, encNds c1 c2 l), (1, .int .i64 p), (4, .ptr 4 g4 0), (7, .ptr 7 g7 0), (8, encSl .any 3 (encPt .any) (grownS acc)), (10, .int .i64 ((n.kids.l.length - 1 - k : Nat) : Int)), (11, .ptr 11 g11 0), (12, .int .i64 r.2.1)]
                  [(4, .cells .new g4 0 [.int .u8 0, .int .i64 0, .nils]), (7, .cells .new g7 0 [.int .u8 n.op, .int .i64 n.pl, encSl c2 1 (V.int .i64) n.kids]), (11, .cells .new g11 0 [.int .u8 r.1.op, .int .i64 r.1.pl, encSl .any 3 (encPt .any) r.1.ks])])
                (fun _ => ¬ (r.2.2 = false ∨ r.1.op = n.op)) (fun K14 hK14 => ?_) ?_
              · by_cases a1 : r.2.2 = true
                · refine AW.seq_k fun K hK => AW.region (by kernel_rfl) ?_
                  simp -implicitDefEqProofs only [go_sem, ↓reduceIte, Nat.reduceEqDiff, Nat.reduceLT, Nat.reduceLeDiff, Nat.reduceAdd, Nat.reduceMul, Nat.reduceSub, Nat.reduceBEq, Int.reduceToNat, Int.reduceLT, Int.reduceLE, Int.reduceEq, Int.reduceNe, Int.reduceBEq, Int.reduceBNe, Int.reduceAdd, Int.reduceSub, Int.natCast_nonneg, Bool.false_eq_true, Bool.true_eq_false, eq_self, a1]
                  refine hK _ ?_
                  clear hK K
                  refine AW.condS (by simp -implicitDefEqProofs only [go_sem, ↓reduceIte, Nat.reduceEqDiff, Nat.reduceLT, Nat.reduceLeDiff, Nat.reduceAdd, Nat.reduceMul, Nat.reduceSub, Nat.reduceBEq, Int.reduceToNat, Int.reduceLT, Int.reduceLE, Int.reduceEq, Int.reduceNe, Int.reduceBEq, Int.reduceBNe, Int.reduceAdd, Int.reduceSub, Int.natCast_nonneg, Bool.false_eq_true, Bool.true_eq_false, eq_self]; rfl) (fun h15 => ?_) (fun h15 => ?_)
                  · -- true
                    refine AW.seq_k fun K hK => AW.region (by kernel_rfl) ?_
                    simp -implicitDefEqProofs only [go_sem, ↓reduceIte, Nat.reduceEqDiff, Nat.reduceLT, Nat.reduceLeDiff, Nat.reduceAdd, Nat.reduceMul, Nat.reduceSub, Nat.reduceBEq, Int.reduceToNat, Int.reduceLT, Int.reduceLE, Int.reduceEq, Int.reduceNe, Int.reduceBEq, Int.reduceBNe, Int.reduceAdd, Int.reduceSub, Int.natCast_nonneg, Bool.false_eq_true, Bool.true_eq_false, eq_self]
                    refine hK _ ?_
                    clear hK K
                    refine AW.ret ?_
                    simp -implicitDefEqProofs only [go_sem, ↓reduceIte, Nat.reduceEqDiff, Nat.reduceLT, Nat.reduceLeDiff, Nat.reduceAdd, Nat.reduceMul, Nat.reduceSub, Nat.reduceBEq, Int.reduceToNat, Int.reduceLT, Int.reduceLE, Int.reduceEq, Int.reduceNe, Int.reduceBEq, Int.reduceBNe, Int.reduceAdd, Int.reduceSub, Int.natCast_nonneg, Bool.false_eq_true, Bool.true_eq_false, eq_self]
                    refine endK_some ?_
                    exact bad (.inr (by simpa using h15))
                  · refine AW.skip ?_
                    simp -implicitDefEqProofs only [go_sem, ↓reduceIte, Nat.reduceEqDiff, Nat.reduceLT, Nat.reduceLeDiff, Nat.reduceAdd, Nat.reduceMul, Nat.reduceSub, Nat.reduceBEq, Int.reduceToNat, Int.reduceLT, Int.reduceLE, Int.reduceEq, Int.reduceNe, Int.reduceBEq, Int.reduceBNe, Int.reduceAdd, Int.reduceSub, Int.natCast_nonneg, Bool.false_eq_true, Bool.true_eq_false, eq_self]
                    exact hK14 _ () (by simp at h15; simp [a1, h15]) (Weak.st (by simp -implicitDefEqProofs only [go_sem, ↓reduceIte, Nat.reduceEqDiff, Nat.reduceLT, Nat.reduceLeDiff, Nat.reduceAdd, Nat.reduceMul, Nat.reduceSub, Nat.reduceBEq, Int.reduceToNat, Int.reduceLT, Int.reduceLE, Int.reduceEq, Int.reduceNe, Int.reduceBEq, Int.reduceBNe, Int.reduceAdd, Int.reduceSub, Int.natCast_nonneg, Bool.false_eq_true, Bool.true_eq_false, eq_self]) (by simp -implicitDefEqProofs only [go_sem, ↓reduceIte, Nat.reduceEqDiff, Nat.reduceLT, Nat.reduceLeDiff, Nat.reduceAdd, Nat.reduceMul, Nat.reduceSub, Nat.reduceBEq, Int.reduceToNat, Int.reduceLT, Int.reduceLE, Int.reduceEq, Int.reduceNe, Int.reduceBEq, Int.reduceBNe, Int.reduceAdd, Int.reduceSub, Int.natCast_nonneg, Bool.false_eq_true, Bool.true_eq_false, eq_self]))
                · have a1 : r.2.2 = false := by simpa using a1
                  refine AW.seq_k fun K hK => AW.region (by kernel_rfl) ?_
                  simp -implicitDefEqProofs only [go_sem, ↓reduceIte, Nat.reduceEqDiff, Nat.reduceLT, Nat.reduceLeDiff, Nat.reduceAdd, Nat.reduceMul, Nat.reduceSub, Nat.reduceBEq, Int.reduceToNat, Int.reduceLT, Int.reduceLE, Int.reduceEq, Int.reduceNe, Int.reduceBEq, Int.reduceBNe, Int.reduceAdd, Int.reduceSub, Int.natCast_nonneg, Bool.false_eq_true, Bool.true_eq_false, eq_self, a1]
                  refine hK _ ?_
                  clear hK K
                  refine AW.condS (by simp -implicitDefEqProofs only [go_sem, ↓reduceIte, Nat.reduceEqDiff, Nat.reduceLT, Nat.reduceLeDiff, Nat.reduceAdd, Nat.reduceMul, Nat.reduceSub, Nat.reduceBEq, Int.reduceToNat, Int.reduceLT, Int.reduceLE, Int.reduceEq, Int.reduceNe, Int.reduceBEq, Int.reduceBNe, Int.reduceAdd, Int.reduceSub, Int.natCast_nonneg, Bool.false_eq_true, Bool.true_eq_false, eq_self]; rfl) (fun h15 => ?_) (fun h15 => ?_)
                  · -- true
                    refine AW.seq_k fun K hK => AW.region (by kernel_rfl) ?_
                    simp -implicitDefEqProofs only [go_sem, ↓reduceIte, Nat.reduceEqDiff, Nat.reduceLT, Nat.reduceLeDiff, Nat.reduceAdd, Nat.reduceMul, Nat.reduceSub, Nat.reduceBEq, Int.reduceToNat, Int.reduceLT, Int.reduceLE, Int.reduceEq, Int.reduceNe, Int.reduceBEq, Int.reduceBNe, Int.reduceAdd, Int.reduceSub, Int.natCast_nonneg, Bool.false_eq_true, Bool.true_eq_false, eq_self]
                    refine hK _ ?_
                    clear hK K
                    refine AW.ret ?_
                    simp -implicitDefEqProofs only [go_sem, ↓reduceIte, Nat.reduceEqDiff, Nat.reduceLT, Nat.reduceLeDiff, Nat.reduceAdd, Nat.reduceMul, Nat.reduceSub, Nat.reduceBEq, Int.reduceToNat, Int.reduceLT, Int.reduceLE, Int.reduceEq, Int.reduceNe, Int.reduceBEq, Int.reduceBNe, Int.reduceAdd, Int.reduceSub, Int.natCast_nonneg, Bool.false_eq_true, Bool.true_eq_false, eq_self]
                    refine endK_some ?_
                    exact bad (.inl a1)
                  · simp at h15
              · intro _ hok
                rw [if_neg hok] at hR
                have hb := hfst (by cases hb : r.2.2 with | true => rfl | false => exact absurd (.inl hb) hok)
                refine AW.seq_k fun K hK => AW.region (by kernel_rfl) ?_
                simp -implicitDefEqProofs only [go_sem, ↓reduceIte, Nat.reduceEqDiff, Nat.reduceLT, Nat.reduceLeDiff, Nat.reduceAdd, Nat.reduceMul, Nat.reduceSub, Nat.reduceBEq, Int.reduceToNat, Int.reduceLT, Int.reduceLE, Int.reduceEq, Int.reduceNe, Int.reduceBEq, Int.reduceBNe, Int.reduceAdd, Int.reduceSub, Int.natCast_nonneg, Bool.false_eq_true, Bool.true_eq_false, eq_self]
                intro g105
                refine hK _ ?_
                clear hK K
                refine AW.seq_k fun K hK => AW.region (by kernel_rfl) ?_
                simp -implicitDefEqProofs only [go_sem, ↓reduceIte, Nat.reduceEqDiff, Nat.reduceLT, Nat.reduceLeDiff, Nat.reduceAdd, Nat.reduceMul, Nat.reduceSub, Nat.reduceBEq, Int.reduceToNat, Int.reduceLT, Int.reduceLE, Int.reduceEq, Int.reduceNe, Int.reduceBEq, Int.reduceBNe, Int.reduceAdd, Int.reduceSub, Int.natCast_nonneg, Bool.false_eq_true, Bool.true_eq_false, eq_self]
                refine ⟨roomOk_of (by omega) (by simp at hal ⊢; omega), fun g2 => ?_⟩
                refine hK _ ?_
                clear hK K
                refine AW.weak (Weak.stF (fun o => o == 105) (l := [(0, encNds c1 c2 l), (1, .int .i64 p), (4, .ptr 4 g4 0), (7, .ptr 7 g7 0), (8, encSl .new 3 (encPt .any) (grownS (r.1 :: acc))), (10, .int .i64 ((n.kids.l.length - 1 - k : Nat) : Int)), (12, .int .i64 r.2.1)])
                  (m := [(4, .cells .new g4 0 [.int .u8 0, .int .i64 0, .nils]), (7, .cells .new g7 0 [.int .u8 n.op, .int .i64 n.pl, encSl c2 1 (V.int .i64) n.kids])]) ?_ ?_) ?_
                · simp -implicitDefEqProofs only [go_sem, ↓reduceIte, Nat.reduceEqDiff, Nat.reduceLT, Nat.reduceLeDiff, Nat.reduceAdd, Nat.reduceMul, Nat.reduceSub, Nat.reduceBEq, Int.reduceToNat, Int.reduceLT, Int.reduceLE, Int.reduceEq, Int.reduceNe, Int.reduceBEq, Int.reduceBNe, Int.reduceAdd, Int.reduceSub, Int.natCast_nonneg, Bool.false_eq_true, Bool.true_eq_false, eq_self]
                  refine ⟨Fz.same _, Fz.same _, Fz.same _, Fz.same _, ?_, Fz.same _, Fz.same _⟩
                  rw [Nat.add_comm 1 acc.length]
                  refine Fz.sl (l := r.1 :: acc) (c := .new) (g := g2) (fz := 0) rfl ?_ (encPt_cells _)
                  simp -implicitDefEqProofs only [go_sem, ↓reduceIte, Nat.reduceEqDiff, Nat.reduceLT, Nat.reduceLeDiff, Nat.reduceAdd, Nat.reduceMul, Nat.reduceSub, Nat.reduceBEq, Int.reduceToNat, Int.reduceLT, Int.reduceLE, Int.reduceEq, Int.reduceNe, Int.reduceBEq, Int.reduceBNe, Int.reduceAdd, Int.reduceSub, Int.natCast_nonneg, Bool.false_eq_true, Bool.true_eq_false, eq_self]
                  simp only [flat, List.map_cons, List.flatMap_cons, encPt_K]
                  rfl
                · simp only [allFzO_cons, allFzO_nil, and_true]
                  exact ⟨FzO.keep rfl (by simp -implicitDefEqProofs only [go_sem, ↓reduceIte, Nat.reduceEqDiff, Nat.reduceLT, Nat.reduceLeDiff, Nat.reduceAdd, Nat.reduceMul, Nat.reduceSub, Nat.reduceBEq, Int.reduceToNat, Int.reduceLT, Int.reduceLE, Int.reduceEq, Int.reduceNe, Int.reduceBEq, Int.reduceBNe, Int.reduceAdd, Int.reduceSub, Int.natCast_nonneg, Bool.false_eq_true, Bool.true_eq_false, eq_self]), FzO.keep rfl (by simp -implicitDefEqProofs only [go_sem, ↓reduceIte, Nat.reduceEqDiff, Nat.reduceLT, Nat.reduceLeDiff, Nat.reduceAdd, Nat.reduceMul, Nat.reduceSub, Nat.reduceBEq, Int.reduceToNat, Int.reduceLT, Int.reduceLE, Int.reduceEq, Int.reduceNe, Int.reduceBEq, Int.reduceBNe, Int.reduceAdd, Int.reduceSub, Int.natCast_nonneg, Bool.false_eq_true, Bool.true_eq_false, eq_self])⟩
                refine AW.weak (Weak.stF (fun o => false) (l := [(0, encNds c1 c2 l), (1, .int .i64 p), (4, .ptr 4 g4 0), (7, .ptr 7 g7 0), (8, encSl .any 3 (encPt .any) (grownS (r.1 :: acc))), (10, .int .i64 ((n.kids.l.length - 1 - k : Nat) : Int)), (12, .int .i64 r.2.1)])
                  (m := [(4, .cells .new g4 0 [.int .u8 0, .int .i64 0, .nils]), (7, .cells .new g7 0 [.int .u8 n.op, .int .i64 n.pl, encSl c2 1 (V.int .i64) n.kids])]) ?_ ?_) ?_
                · simp -implicitDefEqProofs only [go_sem, ↓reduceIte, Nat.reduceEqDiff, Nat.reduceLT, Nat.reduceLeDiff, Nat.reduceAdd, Nat.reduceMul, Nat.reduceSub, Nat.reduceBEq, Int.reduceToNat, Int.reduceLT, Int.reduceLE, Int.reduceEq, Int.reduceNe, Int.reduceBEq, Int.reduceBNe, Int.reduceAdd, Int.reduceSub, Int.natCast_nonneg, Bool.false_eq_true, Bool.true_eq_false, eq_self]
                  exact ⟨Fz.same _, Fz.same _, Fz.same _, Fz.same _, Fz.any (by simp -implicitDefEqProofs only [go_sem, ↓reduceIte, Nat.reduceEqDiff, Nat.reduceLT, Nat.reduceLeDiff, Nat.reduceAdd, Nat.reduceMul, Nat.reduceSub, Nat.reduceBEq, Int.reduceToNat, Int.reduceLT, Int.reduceLE, Int.reduceEq, Int.reduceNe, Int.reduceBEq, Int.reduceBNe, Int.reduceAdd, Int.reduceSub, Int.natCast_nonneg, Bool.false_eq_true, Bool.true_eq_false, eq_self]), Fz.same _, Fz.same _⟩
                · simp only [allFzO_cons, allFzO_nil, and_true]
                  exact ⟨FzO.keep rfl (by simp -implicitDefEqProofs only [go_sem, ↓reduceIte, Nat.reduceEqDiff, Nat.reduceLT, Nat.reduceLeDiff, Nat.reduceAdd, Nat.reduceMul, Nat.reduceSub, Nat.reduceBEq, Int.reduceToNat, Int.reduceLT, Int.reduceLE, Int.reduceEq, Int.reduceNe, Int.reduceBEq, Int.reduceBNe, Int.reduceAdd, Int.reduceSub, Int.natCast_nonneg, Bool.false_eq_true, Bool.true_eq_false, eq_self]), FzO.keep rfl (by simp -implicitDefEqProofs only [go_sem, ↓reduceIte, Nat.reduceEqDiff, Nat.reduceLT, Nat.reduceLeDiff, Nat.reduceAdd, Nat.reduceMul, Nat.reduceSub, Nat.reduceBEq, Int.reduceToNat, Int.reduceLT, Int.reduceLE, Int.reduceEq, Int.reduceNe, Int.reduceBEq, Int.reduceBNe, Int.reduceAdd, Int.reduceSub, Int.natCast_nonneg, Bool.false_eq_true, Bool.true_eq_false, eq_self])⟩
                refine AW.region (by kernel_rfl) ?_
                simp -implicitDefEqProofs only [go_sem, ↓reduceIte, Nat.reduceEqDiff, Nat.reduceLT, Nat.reduceLeDiff, Nat.reduceAdd, Nat.reduceMul, Nat.reduceSub, Nat.reduceBEq, Int.reduceToNat, Int.reduceLT, Int.reduceLE, Int.reduceEq, Int.reduceNe, Int.reduceBEq, Int.reduceBNe, Int.reduceAdd, Int.reduceSub, Int.natCast_nonneg, Bool.false_eq_true, Bool.true_eq_false, eq_self]
                refine hK11 _ ?_
                refine AW.region (by kernel_rfl) ?_
                simp -implicitDefEqProofs only [go_sem, ↓reduceIte, Nat.reduceEqDiff, Nat.reduceLT, Nat.reduceLeDiff, Nat.reduceAdd, Nat.reduceMul, Nat.reduceSub, Nat.reduceBEq, Int.reduceToNat, Int.reduceLT, Int.reduceLE, Int.reduceEq, Int.reduceNe, Int.reduceBEq, Int.reduceBNe, Int.reduceAdd, Int.reduceSub, Int.natCast_nonneg, Bool.false_eq_true, Bool.true_eq_false, eq_self]
                refine hL8 _ ⟨hk1, (r.1 :: acc, r.2.1), ⟨hR, hb.1, by simp at hfp ⊢; omega, by simp at hal ⊢; exact hal⟩, Weak.st (by simp -implicitDefEqProofs only [go_sem, ↓reduceIte, Nat.reduceEqDiff, Nat.reduceLT, Nat.reduceLeDiff, Nat.reduceAdd, Nat.reduceMul, Nat.reduceSub, Nat.reduceBEq, Int.reduceToNat, Int.reduceLT, Int.reduceLE, Int.reduceEq, Int.reduceNe, Int.reduceBEq, Int.reduceBNe, Int.reduceAdd, Int.reduceSub, Int.natCast_nonneg, Bool.false_eq_true, Bool.true_eq_false, eq_self]; exact congrArg _ (by rw [w64 (by omega) (by omega)]; omega)) (by simp -implicitDefEqProofs only [go_sem, ↓reduceIte, Nat.reduceEqDiff, Nat.reduceLT, Nat.reduceLeDiff, Nat.reduceAdd, Nat.reduceMul, Nat.reduceSub, Nat.reduceBEq, Int.reduceToNat, Int.reduceLT, Int.reduceLE, Int.reduceEq, Int.reduceNe, Int.reduceBEq, Int.reduceBNe, Int.reduceAdd, Int.reduceSub, Int.natCast_nonneg, Bool.false_eq_true, Bool.true_eq_false, eq_self])⟩
          · -- false
            refine AW.exit ?_
            simp -implicitDefEqProofs only [go_sem, ↓reduceIte, Nat.reduceEqDiff, Nat.reduceLT, Nat.reduceLeDiff, Nat.reduceAdd, Nat.reduceMul, Nat.reduceSub, Nat.reduceBEq, Int.reduceToNat, Int.reduceLT, Int.reduceLE, Int.reduceEq, Int.reduceNe, Int.reduceBEq, Int.reduceBNe, Int.reduceAdd, Int.reduceSub, Int.natCast_nonneg, Bool.false_eq_true, Bool.true_eq_false, eq_self]
            refine hK7 _ ?_
            have hk1 : k = n.kids.l.length := by simp at h10; omega
            have hdr : n.kids.l.reverse.drop k = [] := by rw [hk1]; simp
            rw [hdr, partKs] at hR
            refine AW.seq_k fun K hK => AW.region (by kernel_rfl) ?_
            simp -implicitDefEqProofs only [go_sem, ↓reduceIte, Nat.reduceEqDiff, Nat.reduceLT, Nat.reduceLeDiff, Nat.reduceAdd, Nat.reduceMul, Nat.reduceSub, Nat.reduceBEq, Int.reduceToNat, Int.reduceLT, Int.reduceLE, Int.reduceEq, Int.reduceNe, Int.reduceBEq, Int.reduceBNe, Int.reduceAdd, Int.reduceSub, Int.natCast_nonneg, Bool.false_eq_true, Bool.true_eq_false, eq_self]
            refine hK _ ?_
            clear hK K
            refine AW.ret ?_
            simp -implicitDefEqProofs only [go_sem, ↓reduceIte, Nat.reduceEqDiff, Nat.reduceLT, Nat.reduceLeDiff, Nat.reduceAdd, Nat.reduceMul, Nat.reduceSub, Nat.reduceBEq, Int.reduceToNat, Int.reduceLT, Int.reduceLE, Int.reduceEq, Int.reduceNe, Int.reduceBEq, Int.reduceBNe, Int.reduceAdd, Int.reduceSub, Int.natCast_nonneg, Bool.false_eq_true, Bool.true_eq_false, eq_self]
            refine endK_some ?_
            rw [hP, hR]
            simp only [encPr, encPt_of]
end Go.Hs
end

section
namespace Go.Hs
open Go.Proofs
set_option maxRecDepth 10000
def ofP (l : List Nd) : Pt × Bool :=
  if l.length = 0 then (Pt.zero, true) else ((partP l.length l ((l.length : Int) - 1)).1, (partP l.length l ((l.length : Int) - 1)).2.2 && decide ((partP l.length l ((l.length : Int) - 1)).2.1 = 0))
/- hopscotch/hopscotchref22.Of -/
theorem rOf_spec (G : Nat → V) (hG : GOk G) (c1 c2 : Col) (l : Sl Nd) (h4 : l.l.length < 1000000000) (hks : ∀ n ∈ l.l, n.kids.l.length < 1000000000) :
    Spec Try.prog G 9 [encNds c1 c2 l] hNone (fun v _ => v = .tuple [encPt .any (ofP l.l).1, .bool (ofP l.l).2]) := by
  refine Spec.of_code' 0 26 [ResultVar.cell 2 31, .tmp 3] Try.func9 rfl rfl rfl rfl fun X => ?_
  refine AW.seq_k fun K hK => AW.region (by kernel_rfl) ?_
  simp -implicitDefEqProofs only [go_sem, ↓reduceIte, Nat.reduceEqDiff, Nat.reduceLT, Nat.reduceLeDiff, Nat.reduceAdd, Nat.reduceMul, Nat.reduceSub, Nat.reduceBEq, Int.reduceToNat, Int.reduceLT, Int.reduceLE, Int.reduceEq, Int.reduceNe, Int.reduceBEq, Int.reduceBNe, Int.reduceAdd, Int.reduceSub, Int.natCast_nonneg, Bool.false_eq_true, Bool.true_eq_false, eq_self]
  intro g2
  refine hK _ ?_
  clear hK K
  refine AW.seq_k fun K1 hK1 => ?_
  refine AW.seq_k fun K hK => AW.region (by kernel_rfl) ?_
  simp -implicitDefEqProofs only [go_sem, ↓reduceIte, Nat.reduceEqDiff, Nat.reduceLT, Nat.reduceLeDiff, Nat.reduceAdd, Nat.reduceMul, Nat.reduceSub, Nat.reduceBEq, Int.reduceToNat, Int.reduceLT, Int.reduceLE, Int.reduceEq, Int.reduceNe, Int.reduceBEq, Int.reduceBNe, Int.reduceAdd, Int.reduceSub, Int.natCast_nonneg, Bool.false_eq_true, Bool.true_eq_false, eq_self]
  refine hK _ ?_
  clear hK K
  refine AW.condS (by simp -implicitDefEqProofs only [go_sem, ↓reduceIte, Nat.reduceEqDiff, Nat.reduceLT, Nat.reduceLeDiff, Nat.reduceAdd, Nat.reduceMul, Nat.reduceSub, Nat.reduceBEq, Int.reduceToNat, Int.reduceLT, Int.reduceLE, Int.reduceEq, Int.reduceNe, Int.reduceBEq, Int.reduceBNe, Int.reduceAdd, Int.reduceSub, Int.natCast_nonneg, Bool.false_eq_true, Bool.true_eq_false, eq_self]; rfl) (fun h2 => ?_) (fun h2 => ?_)
  · -- true
    have h0 : l.l.length = 0 := by simp at h2; simp [h2]
    refine AW.seq_k fun K hK => AW.region (by kernel_rfl) ?_
    simp -implicitDefEqProofs only [go_sem, ↓reduceIte, Nat.reduceEqDiff, Nat.reduceLT, Nat.reduceLeDiff, Nat.reduceAdd, Nat.reduceMul, Nat.reduceSub, Nat.reduceBEq, Int.reduceToNat, Int.reduceLT, Int.reduceLE, Int.reduceEq, Int.reduceNe, Int.reduceBEq, Int.reduceBNe, Int.reduceAdd, Int.reduceSub, Int.natCast_nonneg, Bool.false_eq_true, Bool.true_eq_false, eq_self]
    refine hK _ ?_
    clear hK K
    refine AW.ret ?_
    simp -implicitDefEqProofs only [go_sem, ↓reduceIte, Nat.reduceEqDiff, Nat.reduceLT, Nat.reduceLeDiff, Nat.reduceAdd, Nat.reduceMul, Nat.reduceSub, Nat.reduceBEq, Int.reduceToNat, Int.reduceLT, Int.reduceLE, Int.reduceEq, Int.reduceNe, Int.reduceBEq, Int.reduceBNe, Int.reduceAdd, Int.reduceSub, Int.natCast_nonneg, Bool.false_eq_true, Bool.true_eq_false, eq_self]
    refine endK_some ?_
    rw [ofP, if_pos h0]
    rfl
  · -- false
    refine AW.skip ?_
    simp -implicitDefEqProofs only [go_sem, ↓reduceIte, Nat.reduceEqDiff, Nat.reduceLT, Nat.reduceLeDiff, Nat.reduceAdd, Nat.reduceMul, Nat.reduceSub, Nat.reduceBEq, Int.reduceToNat, Int.reduceLT, Int.reduceLE, Int.reduceEq, Int.reduceNe, Int.reduceBEq, Int.reduceBNe, Int.reduceAdd, Int.reduceSub, Int.natCast_nonneg, Bool.false_eq_true, Bool.true_eq_false, eq_self]
    refine hK1 _ ?_
    have h0 : l.l.length ≠ 0 := by simp at h2; simp [h2]
    have hw : IntKind.i64.wrap ((l.l.length : Int) - 1) = (l.l.length : Int) - 1 := w64 (by omega) (by omega)
    refine AW.seq_k fun K hK => AW.region (by kernel_rfl) ?_
    simp -implicitDefEqProofs only [go_sem, ↓reduceIte, Nat.reduceEqDiff, Nat.reduceLT, Nat.reduceLeDiff, Nat.reduceAdd, Nat.reduceMul, Nat.reduceSub, Nat.reduceBEq, Int.reduceToNat, Int.reduceLT, Int.reduceLE, Int.reduceEq, Int.reduceNe, Int.reduceBEq, Int.reduceBNe, Int.reduceAdd, Int.reduceSub, Int.natCast_nonneg, Bool.false_eq_true, Bool.true_eq_false, eq_self, hw]
    refine CallA.pure hG (by kernel_rfl) ?_
    simp -implicitDefEqProofs only [go_sem, ↓reduceIte, Nat.reduceEqDiff, Nat.reduceLT, Nat.reduceLeDiff, Nat.reduceAdd, Nat.reduceMul, Nat.reduceSub, Nat.reduceBEq, Int.reduceToNat, Int.reduceLT, Int.reduceLE, Int.reduceEq, Int.reduceNe, Int.reduceBEq, Int.reduceBNe, Int.reduceAdd, Int.reduceSub, Int.natCast_nonneg, Bool.false_eq_true, Bool.true_eq_false, eq_self]
    refine (rPart_spec G hG l.l.length _ _ l ((l.l.length : Int) - 1) (by omega) (by omega) (by omega) h4 hks).mono ?_
    rintro _ _ rfl
    have hof : ofP l.l = ((partP l.l.length l.l ((l.l.length : Int) - 1)).1, (partP l.l.length l.l ((l.l.length : Int) - 1)).2.2 && decide ((partP l.l.length l.l ((l.l.length : Int) - 1)).2.1 = 0)) := by
      rw [ofP, if_neg h0]
    generalize partP l.l.length l.l ((l.l.length : Int) - 1) = r at hof
    simp only [encPr]
    simp -implicitDefEqProofs only [go_sem, ↓reduceIte, Nat.reduceEqDiff, Nat.reduceLT, Nat.reduceLeDiff, Nat.reduceAdd, Nat.reduceMul, Nat.reduceSub, Nat.reduceBEq, Int.reduceToNat, Int.reduceLT, Int.reduceLE, Int.reduceEq, Int.reduceNe, Int.reduceBEq, Int.reduceBNe, Int.reduceAdd, Int.reduceSub, Int.natCast_nonneg, Bool.false_eq_true, Bool.true_eq_false, eq_self]
    intro g4
    refine hK _ ?_
    clear hK K
    by_cases a1 : r.2.2 = true
    · refine AW.seq_k fun K hK => AW.region (by kernel_rfl) ?_
      simp -implicitDefEqProofs only [go_sem, ↓reduceIte, Nat.reduceEqDiff, Nat.reduceLT, Nat.reduceLeDiff, Nat.reduceAdd, Nat.reduceMul, Nat.reduceSub, Nat.reduceBEq, Int.reduceToNat, Int.reduceLT, Int.reduceLE, Int.reduceEq, Int.reduceNe, Int.reduceBEq, Int.reduceBNe, Int.reduceAdd, Int.reduceSub, Int.natCast_nonneg, Bool.false_eq_true, Bool.true_eq_false, eq_self, a1]
      refine hK _ ?_
      clear hK K
      refine AW.ret ?_
      simp -implicitDefEqProofs only [go_sem, ↓reduceIte, Nat.reduceEqDiff, Nat.reduceLT, Nat.reduceLeDiff, Nat.reduceAdd, Nat.reduceMul, Nat.reduceSub, Nat.reduceBEq, Int.reduceToNat, Int.reduceLT, Int.reduceLE, Int.reduceEq, Int.reduceNe, Int.reduceBEq, Int.reduceBNe, Int.reduceAdd, Int.reduceSub, Int.natCast_nonneg, Bool.false_eq_true, Bool.true_eq_false, eq_self]
      refine endK_some ?_
      rw [hof, a1]
      simp
      rfl
    · have a1 : r.2.2 = false := by simpa using a1
      refine AW.seq_k fun K hK => AW.region (by kernel_rfl) ?_
      simp -implicitDefEqProofs only [go_sem, ↓reduceIte, Nat.reduceEqDiff, Nat.reduceLT, Nat.reduceLeDiff, Nat.reduceAdd, Nat.reduceMul, Nat.reduceSub, Nat.reduceBEq, Int.reduceToNat, Int.reduceLT, Int.reduceLE, Int.reduceEq, Int.reduceNe, Int.reduceBEq, Int.reduceBNe, Int.reduceAdd, Int.reduceSub, Int.natCast_nonneg, Bool.false_eq_true, Bool.true_eq_false, eq_self, a1]
      refine hK _ ?_
      clear hK K
      refine AW.ret ?_
      simp -implicitDefEqProofs only [go_sem, ↓reduceIte, Nat.reduceEqDiff, Nat.reduceLT, Nat.reduceLeDiff, Nat.reduceAdd, Nat.reduceMul, Nat.reduceSub, Nat.reduceBEq, Int.reduceToNat, Int.reduceLT, Int.reduceLE, Int.reduceEq, Int.reduceNe, Int.reduceBEq, Int.reduceBNe, Int.reduceAdd, Int.reduceSub, Int.natCast_nonneg, Bool.false_eq_true, Bool.true_eq_false, eq_self]
      refine endK_some ?_
      rw [hof, a1]
      simp
end Go.Hs
end
