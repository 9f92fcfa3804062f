/- Part 30 of the proof of a statement of seat Ythlkacbgaclkkaa: HsF15 HsF34 HsF33 HsF32 HsF20 HsF14 HsF16 HsTreeLaw HsF25 HsF26 HsF09 HsTreeRead HsTreePart HsF41 HsF31 HsF40 HsF29 HsF24 HsF35 HsF17 HsF30 HsTreePut. -/
import Derived.Test.YthlkacbgaclkkaaPart19
import Derived.Test.YthlkacbgaclkkaaPart25
import Derived.Test.YthlkacbgaclkkaaPart29
set_option linter.unusedSimpArgs false
set_option linter.unusedVariables false
section
namespace Go.Hs
open Go.Proofs
set_option maxRecDepth 10000
def shInts (M : Nat) : Sh := .row false 1 M (fun _ => .int .i64)
def shNd (M : Nat) (i : Nat) : Sh := match i with | 0 => .int .u8 | 1 => .int .i64 | _ => shInts M
theorem all_map {α : Type} {f : α → V} {R : α → Prop} : ∀ {l : List V}, (∀ u ∈ l, ∃ x, u = f x ∧ R x) → ∃ m : List α, l = m.map f ∧ ∀ x ∈ m, R x
  | [], _ => ⟨[], rfl, by simp⟩
  | u :: r, h => by
    obtain ⟨x, rfl, hx⟩ := h u (by simp)
    obtain ⟨m, rfl, hm⟩ := all_map (f := f) (R := R) (l := r) fun v hv => h v (by simp [hv])
    exact ⟨x :: m, rfl, by simpa using ⟨hx, hm⟩⟩
theorem cells_one {u : V} (h1 : u.cells.length = 1) (h : u = mkV false u.cells) : u.cells = [u] := by
  generalize u.cells = l at *
  match l, h1 with
  | [c], _ => exact congrArg (fun x => [x]) h.symm
theorem shInts_inv {c c' : Col} {M : Nat} {v : V} (h : ShV c c' (shInts M) v) : ∃ s : Sl Int, v = encSl c 1 (V.int .i64) s ∧ s.l.length ≤ M := by
  rcases h with rfl | ⟨clip, l, rfl, hl, hu⟩
  · exact ⟨.nil, rfl, by simp [Sl.l]⟩
  · obtain ⟨m, rfl, _⟩ := all_map (f := V.int .i64) (R := fun _ => True) (l := l) fun u hu' => by
      obtain ⟨h1, h2, h3⟩ := hu u hu'
      obtain ⟨n, hn⟩ := h3 0 (by omega)
      have := cells_one h1 h2
      simp only [this, List.getElem_cons_zero] at hn
      exact ⟨n, hn, trivial⟩
    exact ⟨.mk clip m, rfl, by simpa [Sl.l] using hl⟩
theorem els_inv {c c' : Col} {M : Nat} {l : List V} (hu : ∀ u ∈ l, u.cells.length = 3 ∧ u = mkV true u.cells ∧ ∀ i (h : i < u.cells.length), ShV c c' (shNd M i) u.cells[i]) : ∃ m : List Nd, l = m.map (encNd c) ∧ ∀ n ∈ m, n.kids.l.length ≤ M :=
  all_map (f := encNd c) (R := fun n => n.kids.l.length ≤ M) (l := l) fun u hu' => by
    obtain ⟨h1, h2, h3⟩ := hu u hu'
    generalize u.cells = cs at *
    match cs, h1 with
    | [a, b, d], _ =>
      obtain ⟨x, hx⟩ := h3 0 (by simp)
      obtain ⟨y, hy⟩ := h3 1 (by simp)
      obtain ⟨s, hs, hl⟩ := shInts_inv (h3 2 (by simp))
      simp only [List.getElem_cons_zero, List.getElem_cons_succ] at hx hy hs
      exact ⟨⟨x, y, s⟩, by rw [h2, hx, hy, hs]; rfl, hl⟩
def shNds (N M : Nat) : Sh := .row true 3 N (shNd M)
def shNdsN (N M : Nat) : Sh := .rowN true false 3 N (shNd M)
theorem shNds_inv {c c' : Col} {N M : Nat} {v : V} (h : ShV c c' (shNds N M) v) : ∃ t : Sl Nd, v = encSl c 3 (encNd c) t ∧ t.l.length ≤ N ∧ ∀ n ∈ t.l, n.kids.l.length ≤ M := by
  rcases h with rfl | ⟨clip, l, rfl, hl, hu⟩
  · exact ⟨.nil, rfl, by simp [Sl.l], by simp [Sl.l]⟩
  · obtain ⟨m, rfl, hm⟩ := els_inv hu
    exact ⟨.mk clip m, rfl, by simpa [Sl.l] using hl, by simpa [Sl.l] using hm⟩
theorem shNdsN_inv {c c' : Col} {N M : Nat} {v : V} (h : ShV c c' (shNdsN N M) v) : ∃ t : Sl Nd, v = encSl c 3 (encNd c) t ∧ t.l.length = N ∧ ∀ n ∈ t.l, n.kids.l.length ≤ M := by
  rcases h with ⟨rfl, h0⟩ | ⟨clip, l, rfl, hl, hu⟩
  · exact ⟨.nil, rfl, by simp [Sl.l, h0], by simp [Sl.l]⟩
  · obtain ⟨m, rfl, hm⟩ := els_inv hu
    exact ⟨.mk clip m, rfl, by simpa [Sl.l] using hl, by simpa [Sl.l] using hm⟩
theorem shBox_inv {N M : Nat} {v : V} (h : ShV .old .new (.ptr true true 1 (fun _ => shNdsN N M)) v) : ∃ t : Sl Nd, v = .view .new (encTree .old .old t) ∧ t.l.length = N ∧ ∀ n ∈ t.l, n.kids.l.length ≤ M := by
  obtain ⟨u, rfl, h1, h2, h3⟩ := h
  generalize u.cells = cs at *
  match cs, h1 with
  | [a], _ =>
    obtain ⟨t, ht, hl⟩ := shNdsN_inv (h3 0 (by simp))
    simp only [List.getElem_cons_zero] at ht
    exact ⟨t, by rw [h2, ht]; rfl, hl⟩
theorem shInts_enc {c c' : Col} {M : Nat} {s : Sl Int} (h : s.l.length ≤ M) : ShV c c' (shInts M) (encSl c 1 (V.int .i64) s) := by
  cases s with
  | nil => exact .inl rfl
  | mk b l =>
    refine .inr ⟨b, _, rfl, by simpa [Sl.l] using h, ?_⟩
    intro u hu
    obtain ⟨n, _, rfl⟩ := List.mem_map.1 hu
    exact ⟨rfl, rfl, fun i hi => ⟨n, by simp [V.cells]⟩⟩
theorem shNd_enc {c c' : Col} {M : Nat} {n : Nd} (h : n.kids.l.length ≤ M) : ∀ i (hi : i < (encNd c n).cells.length), ShV c c' (shNd M i) (encNd c n).cells[i] := by
  intro i hi
  have hi : i < 3 := hi
  match i, hi with
  | 0, _ => exact ⟨_, rfl⟩
  | 1, _ => exact ⟨_, rfl⟩
  | 2, _ => exact shInts_enc h
theorem shNds_enc {c c' : Col} {N M : Nat} {t : Sl Nd} (h : t.l.length ≤ N) (hk : ∀ n ∈ t.l, n.kids.l.length ≤ M) : ShV c c' (shNds N M) (encSl c 3 (encNd c) t) := by
  cases t with
  | nil => exact .inl rfl
  | mk b l =>
    refine .inr ⟨b, _, rfl, by simpa [Sl.l] using h, ?_⟩
    intro u hu
    obtain ⟨n, hn, rfl⟩ := List.mem_map.1 hu
    exact ⟨rfl, rfl, shNd_enc (hk n hn)⟩
theorem shNdsN_enc {c c' : Col} {N M : Nat} {t : Sl Nd} (h : t.l.length = N) (hk : ∀ n ∈ t.l, n.kids.l.length ≤ M) : ShV c c' (shNdsN N M) (encSl c 3 (encNd c) t) := by
  cases t with
  | nil => exact .inl ⟨rfl, by simpa [Sl.l] using h.symm⟩
  | mk b l =>
    refine .inr ⟨b, _, rfl, by simpa [Sl.l] using h, ?_⟩
    intro u hu
    obtain ⟨n, hn, rfl⟩ := List.mem_map.1 hu
    exact ⟨rfl, rfl, shNd_enc (hk n hn)⟩
theorem shBox_enc {N M : Nat} {t : Sl Nd} (h : t.l.length = N) (hk : ∀ n ∈ t.l, n.kids.l.length ≤ M) : ShV .old .new (.ptr true true 1 (fun _ => shNdsN N M)) (.view .new (encTree .old .old t)) :=
  ⟨_, rfl, rfl, rfl, fun i hi => by
    have hi : i < 1 := hi
    have : i = 0 := by omega
    subst this
    exact shNdsN_enc h hk⟩
theorem shTree_enc {N M : Nat} {t : Sl Nd} (h : t.l.length ≤ N) (hk : ∀ n ∈ t.l, n.kids.l.length ≤ M) : ShV .new .new (.agg 1 (fun _ => shNds N M)) (encTree .new .new t) :=
  ⟨_, rfl, rfl, fun i hi => by
    have hi : i < 1 := hi
    have : i = 0 := by omega
    subst this
    exact shNds_enc h hk⟩
theorem shTree_inv {N M : Nat} {v : V} (h : ShV .old .new (.agg 1 (fun _ => shNds N M)) v) : ∃ t : Sl Nd, v = encTree .old .old t ∧ t.l.length ≤ N ∧ ∀ n ∈ t.l, n.kids.l.length ≤ M := by
  obtain ⟨l, rfl, h1, h3⟩ := h
  match l, h1 with
  | [a], _ =>
    obtain ⟨t, ht, hl⟩ := shNds_inv (h3 0 (by simp))
    simp only [List.getElem_cons_zero] at ht
    exact ⟨t, by rw [ht]; rfl, hl⟩
theorem free_nd {M : Nat} : ∀ i, i < 3 → (shNd M i).free := by
  intro i hi
  match i, hi with
  | 0, _ => trivial
  | 1, _ => trivial
  | 2, _ => intro j hj; trivial
theorem free_tree {N M : Nat} : (Sh.agg 1 (fun _ => shNds N M)).free := fun i _ => free_nd
theorem freeT_L {N M : Nat} (l : List (Nat × Sh)) (hl : ∀ p ∈ l, ∃ k n, p.2 = .lit k n) : ∀ p ∈ ((1, Sh.ptr true true 1 (fun _ => shNdsN N M)) :: l), p.2.freeT := by
  intro p hp
  cases hp with
  | head =>
    show ∀ i, i < 1 → (shNdsN N M).freeT
    intro i _
    show ∀ i, i < 3 → (shNd M i).free
    exact free_nd
  | tail _ hp => obtain ⟨k, n, h⟩ := hl p hp; rw [h]; trivial
/- hopscotchlaw22.spoil -/
theorem spoil_spec (N0 M : Nat) (hN : N0 < 1000000000) (hM : M < 1000000000) : Spoils Try.prog 15 [.agg 1 (fun _ => shNds N0 M)] := by
  refine Spoils.of_code (n := 35) rfl rfl rfl rfl rfl fun w0 B C => ?_
  refine AK.pre 0 ?_
  rintro w _ ⟨v0, _, rfl, h0, rfl⟩
  obtain ⟨t, rfl, hl, hk⟩ := shTree_inv h0
  refine AW.region (by kernel_rfl) ?_
  simp -implicitDefEqProofs only [go_sem, seval, ↓reduceIte]
  intro g
  generalize hN1 : t.l.length = N at hl
  refine AC.weak (Weak.stF (fun o => o == 1) (l := [(1, .view .new (encTree .old .old t))]) (m := []) (by simp -implicitDefEqProofs only [go_sem, seval, ↓reduceIte]; exact Fz.ptr rfl rfl) trivial) (AC.k [(1, .ptr true true 1 (fun _ => shNdsN N M))] (by simp -implicitDefEqProofs only [go_sem, seval, ↓reduceIte]; exact shBox_enc hN1 hk) ?_)
  clear h0 hk hN1
  -- i := 0
  refine AK.pre 0 ?_
  rintro w _ ⟨v0, _, rfl, h0, rfl⟩
  refine AW.region (by kernel_rfl) ?_
  simp -implicitDefEqProofs only [go_sem, seval, ↓reduceIte]
  refine AC.k [(1, .ptr true true 1 (fun _ => shNdsN N M)), (2, .lit .i64 0)] (by simp -implicitDefEqProofs only [go_sem, seval, ↓reduceIte]; exact h0) ?_
  refine AK.block ?_
  refine AK.for N (fun k => [(1, .ptr true true 1 (fun _ => shNdsN N M)), (2, .lit .i64 k)]) 0 (Nat.zero_le _) fun k hk => ?_
  refine AK.pre 0 ?_
  rintro w _ ⟨v0, _, rfl, h0, _, _, rfl, rfl, rfl⟩
  obtain ⟨t, rfl, hl1, hkk⟩ := shBox_inv h0
  refine AW.seq_k fun K hK => AW.region (by kernel_rfl) ?_
  simp -implicitDefEqProofs only [go_sem, seval, ↓reduceIte]
  refine hK _ ?_
  clear hK K
  refine AW.condS (by simp -implicitDefEqProofs only [go_sem, seval, ↓reduceIte]; rfl) (fun h1 => ?_) (fun h1 => ?_)
  · refine AW.skip ?_
    simp -implicitDefEqProofs only [go_sem, seval, ↓reduceIte]
    have hkN : k < N := by have := of_decide_eq_true h1; omega
    refine AC.k [(1, .ptr true true 1 (fun _ => shNdsN N M)), (2, .lit .i64 k)] (by simp -implicitDefEqProofs only [go_sem, seval, ↓reduceIte]; exact h0) ?_
    refine AK.seqK [(1, .ptr true true 1 (fun _ => shNdsN N M)), (2, .lit .i64 k)] (AK.block ?_) ?_
    · refine AK.seqK [(1, .ptr true true 1 (fun _ => shNdsN N M)), (2, .lit .i64 k)] ?_ ?_
      · -- the parts
        refine AK.pre 0 ?_
        rintro w _ ⟨v0, _, rfl, h0, _, _, rfl, rfl, rfl⟩
        refine AW.region (by kernel_rfl) ?_
        simp -implicitDefEqProofs only [go_sem, seval, ↓reduceIte]
        refine AC.k [(1, .ptr true true 1 (fun _ => shNdsN N M)), (2, .lit .i64 k), (3, .lit .i64 0)] (by simp -implicitDefEqProofs only [go_sem, seval, ↓reduceIte]; exact h0) ?_
        refine AK.block ?_
        refine AK.for M (fun j => [(1, .ptr true true 1 (fun _ => shNdsN N M)), (2, .lit .i64 k), (3, .lit .i64 j)]) 0 (Nat.zero_le _) fun j hj => ?_
        refine AK.pre 0 ?_
        rintro w _ ⟨v0, _, rfl, h0, _, _, rfl, rfl, _, _, rfl, rfl, rfl⟩
        obtain ⟨t, rfl, hl1, hkk⟩ := shBox_inv h0
        have hk1 : k < t.l.length := by omega
        have hgt := List.getElem?_eq_getElem hk1
        have hgm := hkk _ (List.getElem_mem hk1)
        generalize t.l[k] = nd at hgt hgm
        refine AW.seq_k fun K hK => AW.region (by kernel_rfl) ?_
        simp -implicitDefEqProofs only [go_sem, seval, ↓reduceIte, hgt]
        refine hK _ ?_
        clear hK K
        refine AW.condS (by simp -implicitDefEqProofs only [go_sem, seval, ↓reduceIte]; rfl) (fun h2 => ?_) (fun h2 => ?_)
        · refine AW.skip ?_
          simp -implicitDefEqProofs only [go_sem, seval, ↓reduceIte]
          have hj1 : j < nd.kids.l.length := by simpa using h2
          have hgj := List.getElem?_eq_getElem hj1
          refine AC.seqK [(1, .ptr true true 1 (fun _ => shNdsN N M)), (2, .lit .i64 k), (3, .lit .i64 j)] (AC.block (AC.store [(1, .ptr true true 1 (fun _ => shNdsN N M)), (2, .lit .i64 k), (3, .lit .i64 j)] (freeT_L _ (by simp)) (by kernel_rfl) (by kernel_rfl) rfl ?_ fun a w h1 h2 => ⟨h1, h2⟩)) ?_
          · simp -implicitDefEqProofs only [List.dropLast]
            simp -implicitDefEqProofs only [go_sem, seval, ↓reduceIte, hgt, hgj]
            exact ⟨⟨_, rfl, rfl, by kernel_rfl, ⟨rfl, trivial⟩, by decide⟩, h0⟩
          · refine AK.all 0 ?_
            rintro w _ ⟨v0, _, rfl, h0, _, _, rfl, rfl, _, _, rfl, rfl, rfl⟩
            refine AW.region (by kernel_rfl) ?_
            simp -implicitDefEqProofs only [go_sem, seval, ↓reduceIte]
            refine leave.k [(1, .ptr true true 1 (fun _ => shNdsN N M)), (2, .lit .i64 k), (3, .lit .i64 (j + 1 : Nat))] (by simp -implicitDefEqProofs only [go_sem, seval, ↓reduceIte]; exact ⟨h0, w64 (by omega) (by omega)⟩) fun a w h1 h2 => ⟨by omega, h1, h2⟩
        · refine AW.exit ?_
          simp -implicitDefEqProofs only [go_sem, seval, ↓reduceIte]
          refine leave.k [(1, .ptr true true 1 (fun _ => shNdsN N M)), (2, .lit .i64 k)] (by simp -implicitDefEqProofs only [go_sem, seval, ↓reduceIte]; exact h0) fun a w h1 h2 => ⟨h1, h2⟩
      · -- the node
        refine AK.store 0 [(1, .ptr true true 1 (fun _ => shNdsN N M)), (2, .lit .i64 k)] (freeT_L _ (by simp)) (by kernel_rfl) (by kernel_rfl) rfl ?_ fun a w h1 h2 => ⟨h1, h2⟩
        rintro w _ ⟨v0, _, rfl, h0, _, _, rfl, rfl, rfl⟩
        obtain ⟨t, rfl, hl1, hkk⟩ := shBox_inv h0
        have hk1 : k < t.l.length := by omega
        have hgt := List.getElem?_eq_getElem hk1
        generalize t.l[k] = nd at hgt
        simp -implicitDefEqProofs only [List.dropLast]
        simp -implicitDefEqProofs only [go_sem, seval, ↓reduceIte, hgt]
        exact ⟨⟨_, rfl, rfl, by kernel_rfl, by simp -implicitDefEqProofs only [go_sem, seval, ↓reduceIte], by decide⟩, h0⟩
    · refine AK.all 0 ?_
      rintro w _ ⟨v0, _, rfl, h0, _, _, rfl, rfl, rfl⟩
      refine AW.region (by kernel_rfl) ?_
      simp -implicitDefEqProofs only [go_sem, seval, ↓reduceIte]
      refine leave.k [(1, .ptr true true 1 (fun _ => shNdsN N M)), (2, .lit .i64 (k + 1 : Nat))] (by simp -implicitDefEqProofs only [go_sem, seval, ↓reduceIte]; exact ⟨h0, w64 (by omega) (by omega)⟩) fun a w h1 h2 => ⟨hkN, h1, h2⟩
  · refine AW.exit ?_
    simp -implicitDefEqProofs only [go_sem, seval, ↓reduceIte]
    refine leave.k [] trivial fun a w h1 h2 => ⟨h1.df, h2⟩
end Go.Hs
end

section
namespace Go.Hs
open Go.Proofs
set_option maxRecDepth 10000
/- hopscotch/steps.Right$1 -/
theorem rightKid_spec (G : Nat → V) (hG : GOk G) (ca cb c1 c2 c3 : Col) (t : Sl Nd) (n m : Nd) (kid : Int) (h0 : 0 ≤ kid) (hm : t.l[kid.toNat]? = some m) :
    Spec Try.prog G 34 [.int .i64 kid, .view ca (encTree c1 c2 t), .view cb (encNd c3 n)] hNone (fun v _ => v = .bool (m.op == n.op)) := by
  refine Spec.of_code' 0 14 [.tmp 4] Try.func34 rfl rfl rfl rfl fun X => ?_
  refine AW.seq_k fun K hK => AW.region (by kernel_rfl) ?_
  simp -implicitDefEqProofs only [go_sem, seval, ↓reduceIte]
  refine hK _ ?_
  clear hK K
  obtain ⟨q, rfl⟩ : ∃ q : Nat, kid = q := ⟨kid.toNat, by omega⟩
  have hm : t.l[q]? = some m := hm
  refine AW.seq_k fun K hK => AW.regionT ⟨fun _ => .top, fun _ => .pure⟩ (by kernel_rfl) hG (by kernel_rfl) (by kernel_rfl) ?_
  simp -implicitDefEqProofs only [go_sem, seval, ↓reduceIte, hm]
  refine hK _ ?_
  clear hK K
  refine AW.ret ?_
  simp -implicitDefEqProofs only [go_sem, seval, ↓reduceIte]
  refine endK_some ?_
  rfl
end Go.Hs
end

section
namespace Go.Hs
open Go.Proofs
set_option maxRecDepth 10000

/- slices.IndexFunc -/
theorem fIIndex_spec (G : Nat → V) (hG : GOk G) (c : Col) (a : Sl Int) (ha : a.l.length < 1000000000) (fid : FuncId) (cap : List V) (hen : enterable Try.prog fid = true) (p : Int → Bool) (hcap : cap.map (V.recol Col.ent) = cap)
    (hf : ∀ x ∈ a.l, Spec Try.prog G fid (V.int .i64 x :: cap) hNone (fun v _ => v = .bool (p x))) :
    Spec Try.prog G 42 [encSl c 1 (V.int .i64) a, .func (.func fid) [] cap] hNone (fun v _ => ∃ i, v = .int .i64 i ∧ decide (i ≥ 0) = a.l.any p) := by
  refine Spec.of_code' 0 19 [.tmp 4] Try.func42 rfl rfl rfl rfl fun X => ?_
  refine AW.seq_k fun K hK => AW.region (by kernel_rfl) ?_
  simp -implicitDefEqProofs only [go_sem, seval, ↓reduceIte]
  refine hK _ ?_
  clear hK K
  refine AW.seq_k fun K1 hK1 => ?_
  refine AW.seq_k fun K hK => AW.region (by kernel_rfl) ?_
  simp -implicitDefEqProofs only [go_sem, seval, ↓reduceIte]
  refine hK _ ?_
  clear hK K
  refine AW.block ?_
  refine AW.for a.l.length (fun k (_ : Unit) => st [(0, encSl c 1 (V.int .i64) a), (1, .func (.func fid) [] cap), (7, .int .i64 a.l.length), (8, .int .i64 k)] []) (fun k _ => (a.l.take k).any p = false) 0 () (Nat.zero_le _) (by simp)
    (Weak.st (by simp -implicitDefEqProofs only [go_sem, seval, ↓reduceIte]; try simp) (by simp -implicitDefEqProofs only [go_sem, seval, ↓reduceIte])) ?_
  intro k _ hk hR L2 hL2
  refine AW.seq_k fun K hK => AW.region (by kernel_rfl) ?_
  simp -implicitDefEqProofs only [go_sem, seval, ↓reduceIte]
  refine hK _ ?_
  clear hK K
  refine AW.seq_k fun K3 hK3 => ?_
  refine AW.condS (by simp -implicitDefEqProofs only [go_sem, seval, ↓reduceIte]; rfl) (fun h4 => ?_) (fun h4 => ?_)
  · -- true
    refine AW.skip ?_
    simp -implicitDefEqProofs only [go_sem, seval, ↓reduceIte]
    refine hK3 _ ?_
    have hk1 : k < a.l.length := by simpa using h4
    have hgi := List.getElem?_eq_getElem hk1
    have hm := List.getElem_mem hk1
    generalize hx : a.l[k] = x at hgi hm
    refine AW.seq_k fun K5 hK5 => ?_
    refine AW.block ?_
    refine AW.seq_k fun K hK => AW.region (by kernel_rfl) ?_
    simp -implicitDefEqProofs only [go_sem, seval, ↓reduceIte]
    refine hK _ ?_
    clear hK K
    refine AW.seq_k fun K hK => AW.region (by kernel_rfl) ?_
    simp -implicitDefEqProofs only [go_sem, seval, ↓reduceIte, hgi]
    refine CallA.pure hG hen ?_
    simp -implicitDefEqProofs only [go_sem, seval, ↓reduceIte, List.cons_append, List.nil_append, hcap, List.map_cons]
    refine (hf x hm).mono ?_
    rintro _ _ rfl
    simp -implicitDefEqProofs only [go_sem, seval, ↓reduceIte]
    refine hK _ ?_
    clear hK K
    refine AW.condS (by simp -implicitDefEqProofs only [go_sem, seval, ↓reduceIte]; rfl) (fun h6 => ?_) (fun h6 => ?_)
    · -- true
      refine AW.seq_k fun K hK => AW.region (by kernel_rfl) ?_
      simp -implicitDefEqProofs only [go_sem, seval, ↓reduceIte]
      refine hK _ ?_
      clear hK K
      refine AW.ret ?_
      simp -implicitDefEqProofs only [go_sem, seval, ↓reduceIte]
      refine endK_some ?_
      refine ⟨_, rfl, ?_⟩
      have h1 : a.l.any p = true := List.any_eq_true.2 ⟨x, hm, h6⟩
      rw [h1]
      simp
    · -- false
      refine AW.skip ?_
      simp -implicitDefEqProofs only [go_sem, seval, ↓reduceIte]
      refine hK5 _ ?_
      refine AW.region (by kernel_rfl) ?_
      simp -implicitDefEqProofs only [go_sem, seval, ↓reduceIte]
      refine hL2 _ ⟨hk1, (), ?_, Weak.st (by simp -implicitDefEqProofs only [go_sem, seval, ↓reduceIte]; exact congrArg _ (w64 (by omega) (by omega))) (by simp -implicitDefEqProofs only [go_sem, seval, ↓reduceIte])⟩
      rw [List.take_succ_eq_append_getElem hk1, List.any_append, hR, hx]
      simp [h6]
  · -- false
    refine AW.exit ?_
    simp -implicitDefEqProofs only [go_sem, seval, ↓reduceIte]
    refine hK1 _ ?_
    have hk1 : k = a.l.length := by simp at h4; omega
    refine AW.seq_k fun K hK => AW.region (by kernel_rfl) ?_
    simp -implicitDefEqProofs only [go_sem, seval, ↓reduceIte]
    refine hK _ ?_
    clear hK K
    refine AW.ret ?_
    simp -implicitDefEqProofs only [go_sem, seval, ↓reduceIte]
    refine endK_some ?_
    refine ⟨_, rfl, ?_⟩
    rw [hk1, List.take_length] at hR
    rw [hR]
    rfl
/- slices.ContainsFunc -/
theorem fIContains_spec (G : Nat → V) (hG : GOk G) (c : Col) (a : Sl Int) (ha : a.l.length < 1000000000) (fid : FuncId) (cap : List V) (hen : enterable Try.prog fid = true) (p : Int → Bool) (hcap : cap.map (V.recol Col.ent) = cap)
    (hf : ∀ x ∈ a.l, Spec Try.prog G fid (V.int .i64 x :: cap) hNone (fun v _ => v = .bool (p x))) :
    Spec Try.prog G 33 [encSl c 1 (V.int .i64) a, .func (.func fid) [] cap] hNone (fun v _ => v = .bool (a.l.any p)) := by
  refine Spec.of_code' 0 9 [.tmp 4] Try.func33 rfl rfl rfl rfl fun X => ?_
  refine AW.seq_k fun K hK => AW.region (by kernel_rfl) ?_
  simp -implicitDefEqProofs only [go_sem, seval, ↓reduceIte]
  refine hK _ ?_
  clear hK K
  refine AW.seq_k fun K hK => AW.region (by kernel_rfl) ?_
  simp -implicitDefEqProofs only [go_sem, seval, ↓reduceIte]
  refine CallA.pure hG (by kernel_rfl) ?_
  simp -implicitDefEqProofs only [go_sem, seval, ↓reduceIte, List.map_cons, List.map_nil, V.recol, V.recolL_eq, hcap]
  refine (fIIndex_spec G hG _ a ha fid cap hen p hcap hf).mono ?_
  rintro _ _ ⟨i, rfl, hi⟩
  simp -implicitDefEqProofs only [go_sem, seval, ↓reduceIte]
  refine hK _ ?_
  clear hK K
  refine AW.ret ?_
  simp -implicitDefEqProofs only [go_sem, seval, ↓reduceIte]
  refine endK_some ?_
  rw [hi]

/- slices.IndexFunc -/
theorem fTIndex_spec (G : Nat → V) (hG : GOk G) (c : Col) (c1 c2 : Col) (a : Sl (Sl Nd)) (ha : a.l.length < 1000000000) (fid : FuncId) (cap : List V) (hen : enterable Try.prog fid = true) (p : (Sl Nd) → Bool) (hcap : cap.map (V.recol Col.ent) = cap)
    (hf : ∀ c1 c2, ∀ x ∈ a.l, Spec Try.prog G fid (encTree c1 c2 x :: cap) hNone (fun v _ => v = .bool (p x))) :
    Spec Try.prog G 45 [encSl c 1 (encTree c1 c2) a, .func (.func fid) [] cap] hNone (fun v _ => ∃ i, v = .int .i64 i ∧ decide (i ≥ 0) = a.l.any p) := by
  refine Spec.of_code' 0 19 [.tmp 4] Try.func45 rfl rfl rfl rfl fun X => ?_
  refine AW.seq_k fun K hK => AW.region (by kernel_rfl) ?_
  simp -implicitDefEqProofs only [go_sem, seval, ↓reduceIte]
  refine hK _ ?_
  clear hK K
  refine AW.seq_k fun K1 hK1 => ?_
  refine AW.seq_k fun K hK => AW.region (by kernel_rfl) ?_
  simp -implicitDefEqProofs only [go_sem, seval, ↓reduceIte]
  refine hK _ ?_
  clear hK K
  refine AW.block ?_
  refine AW.for a.l.length (fun k (_ : Unit) => st [(0, encSl c 1 (encTree c1 c2) a), (1, .func (.func fid) [] cap), (7, .int .i64 a.l.length), (8, .int .i64 k)] []) (fun k _ => (a.l.take k).any p = false) 0 () (Nat.zero_le _) (by simp)
    (Weak.st (by simp -implicitDefEqProofs only [go_sem, seval, ↓reduceIte]; try simp) (by simp -implicitDefEqProofs only [go_sem, seval, ↓reduceIte])) ?_
  intro k _ hk hR L2 hL2
  refine AW.seq_k fun K hK => AW.region (by kernel_rfl) ?_
  simp -implicitDefEqProofs only [go_sem, seval, ↓reduceIte]
  refine hK _ ?_
  clear hK K
  refine AW.seq_k fun K3 hK3 => ?_
  refine AW.condS (by simp -implicitDefEqProofs only [go_sem, seval, ↓reduceIte]; rfl) (fun h4 => ?_) (fun h4 => ?_)
  · -- true
    refine AW.skip ?_
    simp -implicitDefEqProofs only [go_sem, seval, ↓reduceIte]
    refine hK3 _ ?_
    have hk1 : k < a.l.length := by simpa using h4
    have hgi := List.getElem?_eq_getElem hk1
    have hm := List.getElem_mem hk1
    generalize hx : a.l[k] = x at hgi hm
    refine AW.seq_k fun K5 hK5 => ?_
    refine AW.block ?_
    refine AW.seq_k fun K hK => AW.region (by kernel_rfl) ?_
    simp -implicitDefEqProofs only [go_sem, seval, ↓reduceIte]
    refine hK _ ?_
    clear hK K
    refine AW.seq_k fun K hK => AW.region (by kernel_rfl) ?_
    simp -implicitDefEqProofs only [go_sem, seval, ↓reduceIte, hgi]
    refine CallA.pure hG hen ?_
    simp -implicitDefEqProofs only [go_sem, seval, ↓reduceIte, List.cons_append, List.nil_append, hcap, List.map_cons]
    refine (hf _ _ x hm).mono ?_
    rintro _ _ rfl
    simp -implicitDefEqProofs only [go_sem, seval, ↓reduceIte]
    refine hK _ ?_
    clear hK K
    refine AW.condS (by simp -implicitDefEqProofs only [go_sem, seval, ↓reduceIte]; rfl) (fun h6 => ?_) (fun h6 => ?_)
    · -- true
      refine AW.seq_k fun K hK => AW.region (by kernel_rfl) ?_
      simp -implicitDefEqProofs only [go_sem, seval, ↓reduceIte]
      refine hK _ ?_
      clear hK K
      refine AW.ret ?_
      simp -implicitDefEqProofs only [go_sem, seval, ↓reduceIte]
      refine endK_some ?_
      refine ⟨_, rfl, ?_⟩
      have h1 : a.l.any p = true := List.any_eq_true.2 ⟨x, hm, h6⟩
      rw [h1]
      simp
    · -- false
      refine AW.skip ?_
      simp -implicitDefEqProofs only [go_sem, seval, ↓reduceIte]
      refine hK5 _ ?_
      refine AW.region (by kernel_rfl) ?_
      simp -implicitDefEqProofs only [go_sem, seval, ↓reduceIte]
      refine hL2 _ ⟨hk1, (), ?_, Weak.st (by simp -implicitDefEqProofs only [go_sem, seval, ↓reduceIte]; exact congrArg _ (w64 (by omega) (by omega))) (by simp -implicitDefEqProofs only [go_sem, seval, ↓reduceIte])⟩
      rw [List.take_succ_eq_append_getElem hk1, List.any_append, hR, hx]
      simp [h6]
  · -- false
    refine AW.exit ?_
    simp -implicitDefEqProofs only [go_sem, seval, ↓reduceIte]
    refine hK1 _ ?_
    have hk1 : k = a.l.length := by simp at h4; omega
    refine AW.seq_k fun K hK => AW.region (by kernel_rfl) ?_
    simp -implicitDefEqProofs only [go_sem, seval, ↓reduceIte]
    refine hK _ ?_
    clear hK K
    refine AW.ret ?_
    simp -implicitDefEqProofs only [go_sem, seval, ↓reduceIte]
    refine endK_some ?_
    refine ⟨_, rfl, ?_⟩
    rw [hk1, List.take_length] at hR
    rw [hR]
    rfl
/- slices.ContainsFunc -/
theorem fTContains_spec (G : Nat → V) (hG : GOk G) (c : Col) (c1 c2 : Col) (a : Sl (Sl Nd)) (ha : a.l.length < 1000000000) (fid : FuncId) (cap : List V) (hen : enterable Try.prog fid = true) (p : (Sl Nd) → Bool) (hcap : cap.map (V.recol Col.ent) = cap)
    (hf : ∀ c1 c2, ∀ x ∈ a.l, Spec Try.prog G fid (encTree c1 c2 x :: cap) hNone (fun v _ => v = .bool (p x))) :
    Spec Try.prog G 43 [encSl c 1 (encTree c1 c2) a, .func (.func fid) [] cap] hNone (fun v _ => v = .bool (a.l.any p)) := by
  refine Spec.of_code' 0 9 [.tmp 4] Try.func43 rfl rfl rfl rfl fun X => ?_
  refine AW.seq_k fun K hK => AW.region (by kernel_rfl) ?_
  simp -implicitDefEqProofs only [go_sem, seval, ↓reduceIte]
  refine hK _ ?_
  clear hK K
  refine AW.seq_k fun K hK => AW.region (by kernel_rfl) ?_
  simp -implicitDefEqProofs only [go_sem, seval, ↓reduceIte]
  refine CallA.pure hG (by kernel_rfl) ?_
  simp -implicitDefEqProofs only [go_sem, seval, ↓reduceIte, List.map_cons, List.map_nil, V.recol, V.recolL_eq, hcap]
  refine (fTIndex_spec G hG _ _ _ a ha fid cap hen p hcap hf).mono ?_
  rintro _ _ ⟨i, rfl, hi⟩
  simp -implicitDefEqProofs only [go_sem, seval, ↓reduceIte]
  refine hK _ ?_
  clear hK K
  refine AW.ret ?_
  simp -implicitDefEqProofs only [go_sem, seval, ↓reduceIte]
  refine endK_some ?_
  rw [hi]
end Go.Hs
end

section
namespace Go.Hs
open Go.Proofs
set_option maxRecDepth 10000

/- slices.Equal[[]int,int] -/
theorem sEqual_spec (G : Nat → V) (hG : GOk G) (ca cb : Col) (a b : Sl Int) (ha : a.l.length < 1000000000) :
    Spec Try.prog G 32 [encSl ca 1 (V.int .i64) a, encSl cb 1 (V.int .i64) b] hNone (fun v _ => v = .bool (a.l == b.l)) := by
  refine Spec.of_code' 0 26 [.tmp 4] Try.func32 rfl rfl rfl rfl fun X => ?_
  refine AW.seq_k fun K hK => AW.region (by kernel_rfl) ?_
  simp -implicitDefEqProofs only [go_sem, seval, ↓reduceIte]
  refine hK _ ?_
  clear hK K
  refine AW.seq_k fun K1 hK1 => ?_
  refine AW.seq_k fun K hK => AW.region (by kernel_rfl) ?_
  simp -implicitDefEqProofs only [go_sem, seval, ↓reduceIte]
  refine hK _ ?_
  clear hK K
  refine AW.condS (by simp -implicitDefEqProofs only [go_sem, seval, ↓reduceIte]; rfl) (fun h2 => ?_) (fun h2 => ?_)
  · -- true
    refine AW.seq_k fun K hK => AW.region (by kernel_rfl) ?_
    simp -implicitDefEqProofs only [go_sem, seval, ↓reduceIte]
    refine hK _ ?_
    clear hK K
    refine AW.ret ?_
    simp -implicitDefEqProofs only [go_sem, seval, ↓reduceIte]
    refine endK_some ?_
    simp at h2 ⊢
    intro e
    rw [e] at h2
    exact h2 rfl
  · -- false
    refine AW.skip ?_
    simp -implicitDefEqProofs only [go_sem, seval, ↓reduceIte]
    refine hK1 _ ?_
    have hl : a.l.length = b.l.length := by simp at h2; omega
    refine AW.seq_k fun K3 hK3 => ?_
    refine AW.seq_k fun K hK => AW.region (by kernel_rfl) ?_
    simp -implicitDefEqProofs only [go_sem, seval, ↓reduceIte]
    refine hK _ ?_
    clear hK K
    refine AW.block ?_
    refine AW.for a.l.length (fun k (_ : Unit) => st [(0, encSl ca 1 (V.int .i64) a), (1, encSl cb 1 (V.int .i64) b), (12, .int .i64 a.l.length), (13, .int .i64 k)] []) (fun k _ => a.l.take k = b.l.take k) 0 () (Nat.zero_le _) (by simp)
      (Weak.st (by simp -implicitDefEqProofs only [go_sem, seval, ↓reduceIte]; try simp) (by simp -implicitDefEqProofs only [go_sem, seval, ↓reduceIte])) ?_
    intro k _ hk hR L4 hL4
    refine AW.seq_k fun K hK => AW.region (by kernel_rfl) ?_
    simp -implicitDefEqProofs only [go_sem, seval, ↓reduceIte]
    refine hK _ ?_
    clear hK K
    refine AW.seq_k fun K5 hK5 => ?_
    refine AW.condS (by simp -implicitDefEqProofs only [go_sem, seval, ↓reduceIte]; rfl) (fun h6 => ?_) (fun h6 => ?_)
    · -- true
      refine AW.skip ?_
      simp -implicitDefEqProofs only [go_sem, seval, ↓reduceIte]
      refine hK5 _ ?_
      have hk1 : k < a.l.length := by simpa using h6
      have hk2 : k < b.l.length := by omega
      refine AW.seq_k fun K7 hK7 => ?_
      refine AW.block ?_
      refine AW.seq_k fun K hK => AW.region (by kernel_rfl) ?_
      simp -implicitDefEqProofs only [go_sem, seval, ↓reduceIte]
      refine hK _ ?_
      clear hK K
      refine AW.seq_k fun K hK => AW.regionT ⟨fun _ => .top, fun _ => .pure⟩ (by kernel_rfl) hG (by kernel_rfl) (by kernel_rfl) ?_
      simp -implicitDefEqProofs only [go_sem, seval, ↓reduceIte, List.getElem?_eq_getElem hk1, List.getElem?_eq_getElem hk2]
      refine hK _ ?_
      clear hK K
      refine AW.condS (by simp -implicitDefEqProofs only [go_sem, seval, ↓reduceIte]; rfl) (fun h8 => ?_) (fun h8 => ?_)
      · -- true
        refine AW.seq_k fun K hK => AW.region (by kernel_rfl) ?_
        simp -implicitDefEqProofs only [go_sem, seval, ↓reduceIte]
        refine hK _ ?_
        clear hK K
        refine AW.ret ?_
        simp -implicitDefEqProofs only [go_sem, seval, ↓reduceIte]
        refine endK_some ?_
        simp at h8
        simp
        intro e
        simp [e] at h8
      · -- false
        refine AW.skip ?_
        simp -implicitDefEqProofs only [go_sem, seval, ↓reduceIte]
        refine hK7 _ ?_
        have h3' : a.l[k] = b.l[k] := by simpa using h8
        refine AW.region (by kernel_rfl) ?_
        simp -implicitDefEqProofs only [go_sem, seval, ↓reduceIte]
        refine hL4 _ ⟨hk1, (), ?_, Weak.st (by simp -implicitDefEqProofs only [go_sem, seval, ↓reduceIte]; simp; exact w64 (by omega) (by omega)) (by simp -implicitDefEqProofs only [go_sem, seval, ↓reduceIte])⟩
        rw [List.take_succ_eq_append_getElem hk1, List.take_succ_eq_append_getElem hk2, hR, h3']
    · -- false
      refine AW.exit ?_
      simp -implicitDefEqProofs only [go_sem, seval, ↓reduceIte]
      refine hK3 _ ?_
      have hk1 : k = a.l.length := by simp at h6; omega
      refine AW.seq_k fun K hK => AW.region (by kernel_rfl) ?_
      simp -implicitDefEqProofs only [go_sem, seval, ↓reduceIte]
      refine hK _ ?_
      clear hK K
      refine AW.ret ?_
      simp -implicitDefEqProofs only [go_sem, seval, ↓reduceIte]
      refine endK_some ?_
      subst hk1
      rw [List.take_length, hl, List.take_length] at hR
      simp [hR]
end Go.Hs
end

section
namespace Go.Hs
open Go.Proofs
set_option maxRecDepth 10000

theorem sameInts_spec (G : Nat → V) (hG : GOk G) (ca cb : Col) (a b : Sl Int) (ha : a.l.length < 1000000000) (hb : b.l.length < 1000000000) :
    Spec Try.prog G 20 [encSl ca 1 (V.int .i64) a, encSl cb 1 (V.int .i64) b] hNone (fun v _ => v = .bool (a.l == b.l)) := by
  refine Spec.of_code' 0 26 [.tmp 4] Try.func20 rfl rfl rfl rfl fun X => ?_
  refine AW.seq_k fun K hK => AW.region (by kernel_rfl) ?_
  simp -implicitDefEqProofs only [go_sem, seval, ↓reduceIte]
  refine hK _ ?_
  clear hK K
  refine AW.seq_k fun K hK => ?_
  refine AW.seq_k fun K hK => AW.region (by kernel_rfl) ?_
  simp -implicitDefEqProofs only [go_sem, seval, ↓reduceIte]
  refine hK _ ?_
  clear hK K
  refine AW.condS (by simp -implicitDefEqProofs only [go_sem, seval, ↓reduceIte]; rfl) (fun h => ?_) (fun h => ?_)
  · refine AW.seq_k fun K hK => AW.region (by kernel_rfl) ?_
    simp -implicitDefEqProofs only [go_sem, seval, ↓reduceIte]
    refine hK _ ?_
    clear hK K
    refine AW.ret ?_
    simp -implicitDefEqProofs only [go_sem, seval, ↓reduceIte]
    refine endK_some ?_
    simp at h ⊢
    intro e
    rw [e] at h
    exact h rfl
  refine AW.skip ?_
  refine hK _ ?_
  have hl : a.l.length = b.l.length := by simp at h; omega
  refine AW.seq_k fun K hK => ?_
  refine AW.seq_k fun K hK => AW.region (by kernel_rfl) ?_
  simp -implicitDefEqProofs only [go_sem, seval, ↓reduceIte]
  refine hK _ ?_
  clear hK K
  refine AW.block ?_
  refine AW.for a.l.length (fun k (_ : Unit) => st [(0, encSl ca 1 (V.int .i64) a), (1, encSl cb 1 (V.int .i64) b), (5, .int .i64 k)] []) (fun k _ => a.l.take k = b.l.take k) 0 () (Nat.zero_le _) (by simp)
    (Weak.st (by simp -implicitDefEqProofs only [go_sem, seval, ↓reduceIte]; try simp) (by simp -implicitDefEqProofs only [go_sem, seval, ↓reduceIte])) ?_
  intro k _ hk hR L hL
  unfold st
  refine AW.seq_k fun K2 hK2 => ?_
  refine AW.seq_k fun K hK => AW.region (by kernel_rfl) ?_
  simp -implicitDefEqProofs only [go_sem, seval, ↓reduceIte]
  refine hK _ ?_
  clear hK K
  refine AW.condS (by simp -implicitDefEqProofs only [go_sem, seval, ↓reduceIte]; rfl) (fun h2 => ?_) (fun h2 => ?_)
  · refine AW.skip ?_
    refine hK2 _ ?_
    have hk1 : k < a.l.length := by simpa using h2
    have hk2 : k < b.l.length := by omega
    refine AW.seq_k fun K2 hK2 => ?_
    refine AW.block ?_
    refine AW.seq_k fun K hK => AW.regionT ⟨fun _ => .top, fun _ => .pure⟩ (by kernel_rfl) hG (by kernel_rfl) (by kernel_rfl) ?_
    simp -implicitDefEqProofs only [go_sem, seval, ↓reduceIte, List.getElem?_eq_getElem hk1, List.getElem?_eq_getElem hk2, Int.natCast_nonneg]
    refine hK _ ?_
    clear hK K
    refine AW.condS (by simp -implicitDefEqProofs only [go_sem, seval, ↓reduceIte]; rfl) (fun h3 => ?_) (fun h3 => ?_)
    · refine AW.seq_k fun K3 hK3 => ?_
      refine AW.region (by kernel_rfl) ?_
      simp -implicitDefEqProofs only [go_sem, seval, ↓reduceIte]
      refine hK3 _ ?_
      refine AW.ret ?_
      simp -implicitDefEqProofs only [go_sem, seval, ↓reduceIte]
      refine endK_some ?_
      simp at h3
      simp
      intro e
      simp [e] at h3
    refine AW.skip ?_
    simp -implicitDefEqProofs only [go_sem, seval, ↓reduceIte]
    refine hK2 _ ?_
    have h3' : a.l[k] = b.l[k] := by simpa using h3
    refine AW.region (by kernel_rfl) ?_
    simp -implicitDefEqProofs only [go_sem, seval, ↓reduceIte]
    refine hL _ ⟨hk1, (), ?_, Weak.st (by simp -implicitDefEqProofs only [go_sem, seval, ↓reduceIte]; simp; exact w64 (by omega) (by omega)) (by simp -implicitDefEqProofs only [go_sem, seval, ↓reduceIte])⟩
    rw [List.take_succ_eq_append_getElem hk1, List.take_succ_eq_append_getElem hk2, hR, h3']
  · refine AW.exit ?_
    simp -implicitDefEqProofs only [go_sem, seval, ↓reduceIte]
    refine hK _ ?_
    skip
    have hk1 : k = a.l.length := by simp at h2; omega
    refine AW.seq_k fun K hK => AW.region (by kernel_rfl) ?_
    simp -implicitDefEqProofs only [go_sem, seval, ↓reduceIte]
    refine hK _ ?_
    clear hK K
    refine AW.ret ?_
    simp -implicitDefEqProofs only [go_sem, seval, ↓reduceIte]
    refine endK_some ?_
    subst hk1
    rw [List.take_length, hl, List.take_length] at hR
    simp [hR]

end Go.Hs
end

section
namespace Go.Hs
open Go.Proofs
set_option maxRecDepth 10000

theorem bne_f {a b : Int} (h : a = b) : (a != b) = false := by simp [h]
theorem bne_t {a b : Int} (h : ¬ a = b) : (a != b) = true := by simpa using h
/- hopscotchlaw22.is -/

theorem is_spec (G : Nat → V) (hG : GOk G) (c1 c2 c3 c4 : Col) (t l : Sl Nd) (ht : l.l.length < 1000000000) (hk : ∀ n ∈ t.l, n.kids.l.length < 1000000000) (hk' : ∀ n ∈ l.l, n.kids.l.length < 1000000000) :
    Spec Try.prog G 14 [encTree c1 c2 t, encNds c3 c4 l] hNone (fun v _ => v = .bool (t.l.map Nd.v == l.l.map Nd.v)) := by
  refine Spec.of_code' 0 59 [.tmp 4] Try.func14 rfl rfl rfl rfl fun X => ?_
  refine AW.seq_k fun K hK => AW.region (by kernel_rfl) ?_
  simp -implicitDefEqProofs only [go_sem, seval, ↓reduceIte]
  intro g2
  refine hK _ ?_
  clear hK K
  refine AW.seq_k fun K1 hK1 => ?_
  refine AW.seq_k fun K hK => AW.region (by kernel_rfl) ?_
  simp -implicitDefEqProofs only [go_sem, seval, ↓reduceIte]
  refine hK _ ?_
  clear hK K
  refine AW.condS (by simp -implicitDefEqProofs only [go_sem, seval, ↓reduceIte]; rfl) (fun h2 => ?_) (fun h2 => ?_)
  · -- true
    refine AW.seq_k fun K hK => AW.region (by kernel_rfl) ?_
    simp -implicitDefEqProofs only [go_sem, seval, ↓reduceIte]
    refine hK _ ?_
    clear hK K
    refine AW.ret ?_
    simp -implicitDefEqProofs only [go_sem, seval, ↓reduceIte]
    refine endK_some ?_
    simp at h2 ⊢
    intro e
    have := congrArg List.length e
    simp at this
    exact h2 (by omega)
  · -- false
    refine AW.skip ?_
    simp -implicitDefEqProofs only [go_sem, seval, ↓reduceIte]
    refine hK1 _ ?_
    have hl : t.l.length = l.l.length := by simp at h2; omega
    refine AW.seq_k fun K3 hK3 => ?_
    refine AW.seq_k fun K hK => AW.region (by kernel_rfl) ?_
    simp -implicitDefEqProofs only [go_sem, seval, ↓reduceIte]
    refine hK _ ?_
    clear hK K
    refine AW.block ?_
    refine AW.for l.l.length (fun k (_ : Unit) => st [(1, encSl c3 3 (encNd c4) l), (2, .ptr 2 g2 0), (5, .int .i64 k)] [(2, .cells .new g2 0 [encSl c1 3 (encNd c2) t])]) (fun k _ => (t.l.take k).map Nd.v = (l.l.take k).map Nd.v) 0 () (Nat.zero_le _) (by simp)
      (Weak.st (by simp -implicitDefEqProofs only [go_sem, seval, ↓reduceIte]; try simp) (by simp -implicitDefEqProofs only [go_sem, seval, ↓reduceIte])) ?_
    intro k _ hk2 hR L4 hL4
    refine AW.seq_k fun K5 hK5 => ?_
    refine AW.seq_k fun K hK => AW.region (by kernel_rfl) ?_
    simp -implicitDefEqProofs only [go_sem, seval, ↓reduceIte]
    refine hK _ ?_
    clear hK K
    refine AW.condS (by simp -implicitDefEqProofs only [go_sem, seval, ↓reduceIte]; rfl) (fun h6 => ?_) (fun h6 => ?_)
    · -- true
      refine AW.skip ?_
      simp -implicitDefEqProofs only [go_sem, seval, ↓reduceIte]
      refine hK5 _ ?_
      have hk1 : k < l.l.length := by simpa using h6
      have hkt : k < t.l.length := by omega
      have hg1 := List.getElem?_eq_getElem hk1
      have hg2 := List.getElem?_eq_getElem hkt
      have hm1 := hk _ (List.getElem_mem hkt)
      have hm2 := hk' _ (List.getElem_mem hk1)
      generalize hA : t.l[k] = A at hg2 hm1
      generalize hB : l.l[k] = B at hg1 hm2
      have hbad : ¬ A.v = B.v → V.bool false = .bool (t.l.map Nd.v == l.l.map Nd.v) := by
        intro hne
        refine congrArg _ (Eq.symm ?_)
        rw [beq_eq_false_iff_ne]
        intro e
        have e1 : (t.l.map Nd.v)[k]? = (l.l.map Nd.v)[k]? := by rw [e]
        rw [List.getElem?_map, List.getElem?_map, hg1, hg2] at e1
        simp at e1
        exact hne e1
      refine AW.seq_k fun K7 hK7 => ?_
      refine AW.block ?_
      by_cases e1 : A.op = B.op
      · by_cases e2 : A.pl = B.pl
        · refine AW.seq_k fun K hK => AW.regionT ⟨fun i => if i = 38 then .bool (A.kids.l == B.kids.l) else .top, fun _ => .pure⟩ (by kernel_rfl) hG (by kernel_rfl) (by kernel_rfl) ?_
          simp -implicitDefEqProofs only [go_sem, seval, ↓reduceIte, hg1, hg2, bne_f e1, bne_f e2]
          refine ⟨⟨by kernel_rfl, ?_⟩, ?_⟩
          · simp -implicitDefEqProofs only [go_sem, seval, ↓reduceIte]
            refine (sameInts_spec G hG _ _ A.kids B.kids hm1 hm2).mono ?_
            rintro _ _ rfl
            rfl
          refine hK _ ?_
          clear hK K
          refine AW.condS (by simp -implicitDefEqProofs only [go_sem, seval, ↓reduceIte]; rfl) (fun h8 => ?_) (fun h8 => ?_)
          · refine AW.seq_k fun K hK => AW.region (by kernel_rfl) ?_
            simp -implicitDefEqProofs only [go_sem, seval, ↓reduceIte]
            refine hK _ ?_
            clear hK K
            refine AW.ret ?_
            simp -implicitDefEqProofs only [go_sem, seval, ↓reduceIte]
            refine endK_some ?_
            refine hbad fun e => ?_
            have := congrArg (fun x => x.2.2) e
            simp [Nd.v] at this
            simp [this] at h8
          · refine AW.skip ?_
            simp -implicitDefEqProofs only [go_sem, seval, ↓reduceIte]
            refine hK7 _ ?_
            refine AW.region (by kernel_rfl) ?_
            simp -implicitDefEqProofs only [go_sem, seval, ↓reduceIte]
            refine hL4 _ ⟨hk1, (), ?_, Weak.st (by simp -implicitDefEqProofs only [go_sem, seval, ↓reduceIte]; exact congrArg _ (w64 (by omega) (by omega))) (by simp -implicitDefEqProofs only [go_sem, seval, ↓reduceIte])⟩
            rw [List.take_succ_eq_append_getElem hk1, List.take_succ_eq_append_getElem hkt, List.map_append, List.map_append, hR, hA, hB]
            simp at h8
            simp [Nd.v, e1, e2, h8]
        · refine AW.seq_k fun K hK => AW.regionT ⟨fun _ => .top, fun _ => .pure⟩ (by kernel_rfl) hG (by kernel_rfl) (by kernel_rfl) ?_
          simp -implicitDefEqProofs only [go_sem, seval, ↓reduceIte, hg1, hg2, bne_f e1, bne_t e2]
          refine hK _ ?_
          clear hK K
          refine AW.condS (by simp -implicitDefEqProofs only [go_sem, seval, ↓reduceIte]; rfl) (fun h8 => ?_) (fun h8 => ?_)
          · refine AW.seq_k fun K hK => AW.region (by kernel_rfl) ?_
            simp -implicitDefEqProofs only [go_sem, seval, ↓reduceIte]
            refine hK _ ?_
            clear hK K
            refine AW.ret ?_
            simp -implicitDefEqProofs only [go_sem, seval, ↓reduceIte]
            refine endK_some ?_
            exact hbad fun e => e2 (congrArg (fun x => x.2.1) e)
          · simp at h8
      · refine AW.seq_k fun K hK => AW.regionT ⟨fun _ => .top, fun _ => .pure⟩ (by kernel_rfl) hG (by kernel_rfl) (by kernel_rfl) ?_
        simp -implicitDefEqProofs only [go_sem, seval, ↓reduceIte, hg1, hg2, bne_t e1]
        refine hK _ ?_
        clear hK K
        refine AW.condS (by simp -implicitDefEqProofs only [go_sem, seval, ↓reduceIte]; rfl) (fun h8 => ?_) (fun h8 => ?_)
        · refine AW.seq_k fun K hK => AW.region (by kernel_rfl) ?_
          simp -implicitDefEqProofs only [go_sem, seval, ↓reduceIte]
          refine hK _ ?_
          clear hK K
          refine AW.ret ?_
          simp -implicitDefEqProofs only [go_sem, seval, ↓reduceIte]
          refine endK_some ?_
          exact hbad fun e => e1 (congrArg (fun x => x.1) e)
        · simp at h8
    · -- false
      refine AW.exit ?_
      simp -implicitDefEqProofs only [go_sem, seval, ↓reduceIte]
      refine hK3 _ ?_
      have hk1 : k = l.l.length := by simp at h6; omega
      refine AW.seq_k fun K hK => AW.region (by kernel_rfl) ?_
      simp -implicitDefEqProofs only [go_sem, seval, ↓reduceIte]
      refine hK _ ?_
      clear hK K
      refine AW.ret ?_
      simp -implicitDefEqProofs only [go_sem, seval, ↓reduceIte]
      refine endK_some ?_
      rw [hk1, List.take_length, ← hl, List.take_length] at hR
      simp [hR]
end Go.Hs
end

section
namespace Go.Hs
open Go.Proofs
set_option maxRecDepth 10000
def sameOp (l : List Nd) (n : Nd) (kid : Int) : Bool := match l[kid.toNat]? with | some m => m.op == n.op | none => false
/-- The nodes that are no parts yet, kept in a stack. -/
def rightGo (l : List Nd) : List Nd → Nat → List Int → Option (List Int)
  | [], _, opn => some opn
  | n :: r, i, opn =>
    if n.op ≥ 3 ∧ n.op ≤ 7 ∧ n.kids.l.length = 0 then rightGo l r (i + 1) (opn ++ [(i : Int)])
    else if (n.op ≠ 1 ∧ n.op ≠ 2) ∨ n.pl ≠ 0 ∨ n.kids.l.length < 2 ∨ opn.length < n.kids.l.length ∨ opn.drop (opn.length - n.kids.l.length) ≠ n.kids.l then none
    else if n.kids.l.any (sameOp l n) = true then none
    else rightGo l r (i + 1) (opn.take (opn.length - n.kids.l.length) ++ [(i : Int)])
def rightP (l : List Nd) : Bool := match rightGo l l 0 [] with | some opn => decide (opn.length < 2) | none => false
/- hopscotch/steps.Right -/
theorem right_spec (G : Nat → V) (hG : GOk G) (c1 c2 : Col) (t : Sl Nd) (ht : t.l.length < 1000000000) (hks : ∀ n ∈ t.l, n.kids.l.length < 1000000000) :
    Spec Try.prog G 16 [encTree c1 c2 t] hNone (fun v _ => v = .bool (rightP t.l)) := by
  refine Spec.of_code' 0 85 [.tmp 2] Try.func16 rfl rfl rfl rfl fun X => ?_
  refine AW.seq_k fun K hK => AW.region (by kernel_rfl) ?_
  simp -implicitDefEqProofs only [go_sem, seval, ↓reduceIte]
  intro g1
  refine hK _ ?_
  clear hK K
  refine AW.seq_k fun K hK => AW.region (by kernel_rfl) ?_
  simp -implicitDefEqProofs only [go_sem, seval, ↓reduceIte]
  refine hK _ ?_
  clear hK K
  refine AW.seq_k fun K1 hK1 => ?_
  refine AW.seq_k fun K hK => AW.region (by kernel_rfl) ?_
  simp -implicitDefEqProofs only [go_sem, seval, ↓reduceIte]
  refine hK _ ?_
  clear hK K
  refine AW.block ?_
  refine AW.for t.l.length (fun k (x : (Nat × Nat) × List Int) => st [(1, .ptr 1 g1 0), (3, grown x.1.1 x.1.2 1 x.2), (8, encSl c1 3 (encNd c2) t), (9, .int .i64 t.l.length), (10, .int .i64 k)]
      [(1, .cells .new g1 0 [encSl c1 3 (encNd c2) t]), (x.1.1, grownO x.1.2 (V.int .i64) x.2)])
    (fun k x => (x.1.1 = 32 ∨ x.1.1 = 80) ∧ rightGo t.l (t.l.drop k) k x.2 = rightGo t.l t.l 0 [] ∧ x.2.length ≤ k ∧ ∀ y ∈ x.2, 0 ≤ y ∧ y < k) 0 ((32, 0), []) (Nat.zero_le _) ⟨.inl rfl, rfl, Nat.zero_le _, by simp⟩
    (Weak.st (by simp -implicitDefEqProofs only [go_sem, seval, ↓reduceIte]; simp [grown]) (by simp -implicitDefEqProofs only [go_sem, seval, ↓reduceIte]; try rfl)) ?_
  rintro k ⟨⟨o, g⟩, opn⟩ hk ⟨ho, hR, hol, hov⟩ L2 hL2
  have ho : o = 32 ∨ o = 80 := ho
  have hol : opn.length ≤ k := hol
  have hov : ∀ y ∈ opn, 0 ≤ y ∧ y < (k : Int) := hov
  have ne1 : (1 = o) = False := by rcases ho with rfl | rfl <;> simp
  have ne2 : (5 = o) = False := by rcases ho with rfl | rfl <;> simp
  have ne3 : (o = 1) = False := by rcases ho with rfl | rfl <;> simp
  have ne4 : (o = 5) = False := by rcases ho with rfl | rfl <;> simp
  have ne5 : (o = 31) = False := by rcases ho with rfl | rfl <;> simp
  have ne6 : (31 = o) = False := by rcases ho with rfl | rfl <;> simp
  have ne7 : (o = 79) = False := by rcases ho with rfl | rfl <;> simp
  have ne8 : (79 = o) = False := by rcases ho with rfl | rfl <;> simp
  refine AW.seq_k fun K hK => AW.region (by kernel_rfl) ?_
  simp -implicitDefEqProofs only [go_sem, seval, ↓reduceIte]
  refine hK _ ?_
  clear hK K
  refine AW.seq_k fun K3 hK3 => ?_
  refine AW.condS (by simp -implicitDefEqProofs only [go_sem, seval, ↓reduceIte]; rfl) (fun h4 => ?_) (fun h4 => ?_)
  · -- true
    refine AW.skip ?_
    simp -implicitDefEqProofs only [go_sem, seval, ↓reduceIte]
    refine hK3 _ ?_
    have hk1 : k < t.l.length := by simpa using h4
    have hgi := List.getElem?_eq_getElem hk1
    have hnm := List.getElem_mem hk1
    rw [List.drop_eq_getElem_cons hk1] at hR
    generalize t.l[k] = n at hgi hnm hR
    have hkl := hks n hnm
    rw [rightGo] at hR
    refine AW.seq_k fun K5 hK5 => ?_
    refine AW.block ?_
    refine AW.seq_k fun K hK => AW.region (by kernel_rfl) ?_
    simp -implicitDefEqProofs only [go_sem, seval, ↓reduceIte, hgi, ne1, ne2]
    intro g5
    refine hK _ ?_
    clear hK K
    refine AW.seqJ (fun (_ : Unit) => st [(1, .ptr 1 g1 0), (3, grown o g 1 opn), (8, encSl c1 3 (encNd c2) t), (9, .int .i64 t.l.length), (10, .int .i64 k), (4, .int .i64 k), (5, .ptr 5 g5 0)] [(1, .cells .new g1 0 [encSl c1 3 (encNd c2) t]), (5, .cells .new g5 0 [.int .u8 n.op, .int .i64 n.pl, encSl c2 1 (V.int .i64) n.kids]), (o, grownO g (V.int .i64) opn)])
      (fun _ => ¬ (n.op ≥ 3 ∧ n.op ≤ 7 ∧ n.kids.l.length = 0)) (fun K6 hK6 => ?_) ?_
    · by_cases a1 : n.op ≥ 3
      · by_cases a2 : n.op ≤ 7
        · refine AW.seq_k fun K hK => AW.region (by kernel_rfl) ?_
          simp -implicitDefEqProofs only [go_sem, seval, ↓reduceIte, decide_eq_true a1, decide_eq_true a2, ne1, ne2]
          refine hK _ ?_
          clear hK K
          refine AW.condS (by simp -implicitDefEqProofs only [go_sem, seval, ↓reduceIte]; rfl) (fun h7 => ?_) (fun h7 => ?_)
          · have a3 : n.kids.l.length = 0 := by simp at h7; simp [h7]
            rw [if_pos ⟨a1, a2, a3⟩] at hR
            refine AW.seq_k fun K hK => AW.region (by kernel_rfl) ?_
            simp -implicitDefEqProofs only [go_sem, seval, ↓reduceIte, ne1, ne2]
            intro g31
            refine app_grown2 (f := V.int .i64) (l := opn) (l2 := [(k : Int)]) (o := o) (g := g) (fun _ => rfl) rfl rfl rfl (by simp -implicitDefEqProofs only [go_sem, seval, ↓reduceIte, ne3, ne4, ne5]) (roomOk_of (by omega) (by simp; omega)) fun o2 g2 ho2 => ?_
            have ho2' : o2 = 32 ∨ o2 = 80 := by rcases ho2 with rfl | rfl; · { exact ho }; · exact .inl rfl
            simp -implicitDefEqProofs only [go_sem, seval, ↓reduceIte]
            refine hK _ ?_
            clear hK K
            refine AW.exit ?_
            simp -implicitDefEqProofs only [go_sem, seval, ↓reduceIte]
            refine hK5 _ ?_
            refine AW.region (by kernel_rfl) ?_
            simp -implicitDefEqProofs only [go_sem, seval, ↓reduceIte]
            have me1 : (1 = o2) = False := by rcases ho2' with rfl | rfl <;> simp
            refine hL2 _ ⟨hk1, ((o2, g2), opn ++ [(k : Int)]), ⟨ho2', hR, by simp; omega, ?_⟩, Weak.st (by simp -implicitDefEqProofs only [go_sem, seval, ↓reduceIte]; exact congrArg _ (w64 (by omega) (by omega))) (by simp -implicitDefEqProofs only [go_sem, seval, ↓reduceIte, me1])⟩
            intro y hy
            simp only [List.mem_append, List.mem_singleton] at hy
            rcases hy with hy | rfl
            · have := hov y hy
              omega
            · omega
          · have a3 : ¬ n.kids.l.length = 0 := by simp at h7; simp [h7]
            refine AW.skip ?_
            simp -implicitDefEqProofs only [go_sem, seval, ↓reduceIte]
            exact hK6 _ () (fun e => a3 e.2.2) (Weak.st (by simp -implicitDefEqProofs only [go_sem, seval, ↓reduceIte]) (by simp -implicitDefEqProofs only [go_sem, seval, ↓reduceIte, ne1, ne2, ne3, ne4]))
        · refine AW.seq_k fun K hK => AW.region (by kernel_rfl) ?_
          simp -implicitDefEqProofs only [go_sem, seval, ↓reduceIte, decide_eq_true a1, decide_eq_false a2, ne1, ne2]
          refine hK _ ?_
          clear hK K
          refine AW.condS (by simp -implicitDefEqProofs only [go_sem, seval, ↓reduceIte]; rfl) (fun h7 => ?_) (fun h7 => ?_)
          · simp at h7
          · refine AW.skip ?_
            simp -implicitDefEqProofs only [go_sem, seval, ↓reduceIte]
            exact hK6 _ () (fun e => a2 e.2.1) (Weak.st (by simp -implicitDefEqProofs only [go_sem, seval, ↓reduceIte]) (by simp -implicitDefEqProofs only [go_sem, seval, ↓reduceIte, ne1, ne2, ne3, ne4]))
      · refine AW.seq_k fun K hK => AW.region (by kernel_rfl) ?_
        simp -implicitDefEqProofs only [go_sem, seval, ↓reduceIte, decide_eq_false a1, ne1, ne2]
        refine hK _ ?_
        clear hK K
        refine AW.condS (by simp -implicitDefEqProofs only [go_sem, seval, ↓reduceIte]; rfl) (fun h7 => ?_) (fun h7 => ?_)
        · simp at h7
        · refine AW.skip ?_
          simp -implicitDefEqProofs only [go_sem, seval, ↓reduceIte]
          exact hK6 _ () (fun e => a1 e.1) (Weak.st (by simp -implicitDefEqProofs only [go_sem, seval, ↓reduceIte]) (by simp -implicitDefEqProofs only [go_sem, seval, ↓reduceIte, ne1, ne2, ne3, ne4]))
    · intro _ hnl
      rw [if_neg hnl] at hR
      have hw : IntKind.i64.wrap ((opn.length : Int) - (n.kids.l.length : Int)) = (opn.length : Int) - (n.kids.l.length : Int) := w64 (by omega) (by omega)
      refine AW.seq_k fun K hK => AW.region (by kernel_rfl) ?_
      simp -implicitDefEqProofs only [go_sem, seval, ↓reduceIte, hw, ne1, ne2]
      refine hK _ ?_
      clear hK K
      refine AW.seqJ (fun (_ : Unit) => st [(1, .ptr 1 g1 0), (3, grown o g 1 opn), (8, encSl c1 3 (encNd c2) t), (9, .int .i64 t.l.length), (10, .int .i64 k), (4, .int .i64 k), (5, .ptr 5 g5 0), (6, .int .i64 ((opn.length - n.kids.l.length : Nat) : Int))] [(1, .cells .new g1 0 [encSl c1 3 (encNd c2) t]), (5, .cells .new g5 0 [.int .u8 n.op, .int .i64 n.pl, encSl c2 1 (V.int .i64) n.kids]), (o, grownO g (V.int .i64) opn)])
        (fun _ => ¬ ((n.op ≠ 1 ∧ n.op ≠ 2) ∨ n.pl ≠ 0 ∨ n.kids.l.length < 2 ∨ opn.length < n.kids.l.length ∨ opn.drop (opn.length - n.kids.l.length) ≠ n.kids.l)) (fun K8 hK8 => ?_) ?_
      · have bad : ((n.op ≠ 1 ∧ n.op ≠ 2) ∨ n.pl ≠ 0 ∨ n.kids.l.length < 2 ∨ opn.length < n.kids.l.length ∨ opn.drop (opn.length - n.kids.l.length) ≠ n.kids.l) → V.bool false = V.bool (rightP t.l) := by
          intro hb
          rw [if_pos hb] at hR
          rw [rightP, ← hR]
        have two : n.op = 1 ∨ n.op = 2 ∨ (n.op ≠ 1 ∧ n.op ≠ 2) := by omega
        rcases two with a1 | a1 | ⟨a1, a2⟩
        · have hnot : ¬ (n.op ≠ 1 ∧ n.op ≠ 2) := by omega
          by_cases b2 : n.pl = 0
          · by_cases b3 : n.kids.l.length < 2
            · refine AW.seq_k fun K hK => AW.regionT ⟨fun _ => .top, fun _ => .pure⟩ (by kernel_rfl) hG (by kernel_rfl) (by kernel_rfl) ?_
              simp -implicitDefEqProofs only [go_sem, seval, ↓reduceIte, bne_f a1, bne_f b2, decide_eq_true (show (n.kids.l.length : Int) < 2 by omega), ne1, ne2]
              refine hK _ ?_
              clear hK K
              refine AW.condS (by simp -implicitDefEqProofs only [go_sem, seval, ↓reduceIte]; rfl) (fun h8 => ?_) (fun h8 => ?_)
              · refine AW.seq_k fun K hK => AW.region (by kernel_rfl) ?_
                simp -implicitDefEqProofs only [go_sem, seval, ↓reduceIte]
                refine hK _ ?_
                clear hK K
                refine AW.ret ?_
                simp -implicitDefEqProofs only [go_sem, seval, ↓reduceIte]
                refine endK_some ?_
                exact bad (.inr (.inr (.inl b3)))
              · simp at h8
            · by_cases b4 : opn.length < n.kids.l.length
              · refine AW.seq_k fun K hK => AW.regionT ⟨fun _ => .top, fun _ => .pure⟩ (by kernel_rfl) hG (by kernel_rfl) (by kernel_rfl) ?_
                simp -implicitDefEqProofs only [go_sem, seval, ↓reduceIte, bne_f a1, bne_f b2, decide_eq_false (show ¬ (n.kids.l.length : Int) < 2 by omega), decide_eq_true (show (opn.length : Int) - (n.kids.l.length : Int) < 0 by omega), ne1, ne2]
                refine hK _ ?_
                clear hK K
                refine AW.condS (by simp -implicitDefEqProofs only [go_sem, seval, ↓reduceIte]; rfl) (fun h8 => ?_) (fun h8 => ?_)
                · refine AW.seq_k fun K hK => AW.region (by kernel_rfl) ?_
                  simp -implicitDefEqProofs only [go_sem, seval, ↓reduceIte]
                  refine hK _ ?_
                  clear hK K
                  refine AW.ret ?_
                  simp -implicitDefEqProofs only [go_sem, seval, ↓reduceIte]
                  refine endK_some ?_
                  exact bad (.inr (.inr (.inr (.inl b4))))
                · simp at h8
              · have hd : (opn.length : Int) - (n.kids.l.length : Int) = ((opn.length - n.kids.l.length : Nat) : Int) := by omega
                have hkk : opn.length - n.kids.l.length + n.kids.l.length = opn.length := by omega
                have hlt : opn.length - n.kids.l.length < opn.length := by omega
                generalize hkd : opn.length - n.kids.l.length = kk at hd hkk hlt
                have hne : opn ≠ [] := by intro e; rw [e] at hlt; simp at hlt
                have hsl : (if kk = 0 then V.msl o g 0 opn.length 1 else if kk < opn.length then V.msl o g (kk * 1) (opn.length - kk) 1 else V.slice .any false 1 []) = .msl o g (kk * 1) n.kids.l.length 1 := by
                  by_cases h0 : kk = 0
                  · rw [if_pos h0]; congr 1 <;> omega
                  · rw [if_neg h0, if_pos hlt]; congr 1 <;> omega
                refine AW.seq_k fun K hK => AW.regionT ⟨fun i => if i = 29 then .bool (opn.drop kk == n.kids.l) else .top, fun i => if i = 29 then .lend else .pure⟩ (by kernel_rfl) hG (by kernel_rfl) (by kernel_rfl) ?_
                simp -implicitDefEqProofs only [go_sem, seval, ↓reduceIte, bne_f a1, bne_f b2, decide_eq_false (show ¬ (n.kids.l.length : Int) < 2 by omega), hd, decide_eq_false (show ¬ ((kk : Nat) : Int) < 0 by omega), grown_ne o g 1 hne, Nat.le_of_lt hlt, Nat.le_refl, and_self, hsl, ne1, ne2]
                have hdt : (opn.drop kk).take n.kids.l.length = opn.drop kk := by rw [List.take_of_length_le]; rw [List.length_drop]; omega
                refine ⟨BorC.of [encSl .old 1 (V.int .i64) (.mk false ((opn.drop kk).take n.kids.l.length)), encSl c2.ent 1 (V.int .i64) n.kids] (by kernel_rfl) ⟨?_, Rd.im (Im.ints _) (by simp -implicitDefEqProofs only [go_sem, seval, ↓reduceIte]), trivial⟩ ((sEqual_spec G hG _ _ (.mk false ((opn.drop kk).take n.kids.l.length)) n.kids (by simp [Sl.l]; omega)).mono ?_), ?_⟩
                · exact Rd.msl (g := g) (fz := 0) (c := .new) (f := V.int .i64) (by simp -implicitDefEqProofs only [go_sem, seval, ↓reduceIte, ne3, ne4]; exact grownO_ne _ _ hne) (fun _ => rfl) (fun x y hy => by simp [V.cells] at hy; subst hy; exact .int _ _) (fun _ => rfl) (by omega)
                · rintro _ _ rfl
                  exact ⟨.bool _, by rw [Sl.l_mk, hdt]⟩
                refine hK _ ?_
                clear hK K
                refine AW.condS (by simp -implicitDefEqProofs only [go_sem, seval, ↓reduceIte]; rfl) (fun h8 => ?_) (fun h8 => ?_)
                · refine AW.seq_k fun K hK => AW.region (by kernel_rfl) ?_
                  simp -implicitDefEqProofs only [go_sem, seval, ↓reduceIte]
                  refine hK _ ?_
                  clear hK K
                  refine AW.ret ?_
                  simp -implicitDefEqProofs only [go_sem, seval, ↓reduceIte]
                  refine endK_some ?_
                  refine bad (.inr (.inr (.inr (.inr ?_))))
                  intro e
                  rw [hkd] at e
                  rw [e] at h8
                  simp at h8
                · refine AW.skip ?_
                  simp -implicitDefEqProofs only [go_sem, seval, ↓reduceIte]
                  refine hK8 _ () ?_ (Weak.st (by simp -implicitDefEqProofs only [go_sem, seval, ↓reduceIte]; exact ⟨(grown_ne o g 1 hne).symm, by rw [hkd]⟩) (by simp -implicitDefEqProofs only [go_sem, seval, ↓reduceIte, ne1, ne2, ne3, ne4]))
                  rw [hkd]
                  simp at h8
                  rintro (h | h | h | h | h)
                  · exact hnot h
                  · exact h b2
                  · exact b3 h
                  · exact b4 h
                  · exact h h8
          · refine AW.seq_k fun K hK => AW.regionT ⟨fun _ => .top, fun _ => .pure⟩ (by kernel_rfl) hG (by kernel_rfl) (by kernel_rfl) ?_
            simp -implicitDefEqProofs only [go_sem, seval, ↓reduceIte, bne_f a1, bne_t b2, ne1, ne2]
            refine hK _ ?_
            clear hK K
            refine AW.condS (by simp -implicitDefEqProofs only [go_sem, seval, ↓reduceIte]; rfl) (fun h8 => ?_) (fun h8 => ?_)
            · refine AW.seq_k fun K hK => AW.region (by kernel_rfl) ?_
              simp -implicitDefEqProofs only [go_sem, seval, ↓reduceIte]
              refine hK _ ?_
              clear hK K
              refine AW.ret ?_
              simp -implicitDefEqProofs only [go_sem, seval, ↓reduceIte]
              refine endK_some ?_
              exact bad (.inr (.inl b2))
            · simp at h8
        · have hnot : ¬ (n.op ≠ 1 ∧ n.op ≠ 2) := by omega
          by_cases b2 : n.pl = 0
          · by_cases b3 : n.kids.l.length < 2
            · refine AW.seq_k fun K hK => AW.regionT ⟨fun _ => .top, fun _ => .pure⟩ (by kernel_rfl) hG (by kernel_rfl) (by kernel_rfl) ?_
              simp -implicitDefEqProofs only [go_sem, seval, ↓reduceIte, bne_t (show ¬ n.op = 1 by omega), bne_f a1, bne_f b2, decide_eq_true (show (n.kids.l.length : Int) < 2 by omega), ne1, ne2]
              refine hK _ ?_
              clear hK K
              refine AW.condS (by simp -implicitDefEqProofs only [go_sem, seval, ↓reduceIte]; rfl) (fun h8 => ?_) (fun h8 => ?_)
              · refine AW.seq_k fun K hK => AW.region (by kernel_rfl) ?_
                simp -implicitDefEqProofs only [go_sem, seval, ↓reduceIte]
                refine hK _ ?_
                clear hK K
                refine AW.ret ?_
                simp -implicitDefEqProofs only [go_sem, seval, ↓reduceIte]
                refine endK_some ?_
                exact bad (.inr (.inr (.inl b3)))
              · simp at h8
            · by_cases b4 : opn.length < n.kids.l.length
              · refine AW.seq_k fun K hK => AW.regionT ⟨fun _ => .top, fun _ => .pure⟩ (by kernel_rfl) hG (by kernel_rfl) (by kernel_rfl) ?_
                simp -implicitDefEqProofs only [go_sem, seval, ↓reduceIte, bne_t (show ¬ n.op = 1 by omega), bne_f a1, bne_f b2, decide_eq_false (show ¬ (n.kids.l.length : Int) < 2 by omega), decide_eq_true (show (opn.length : Int) - (n.kids.l.length : Int) < 0 by omega), ne1, ne2]
                refine hK _ ?_
                clear hK K
                refine AW.condS (by simp -implicitDefEqProofs only [go_sem, seval, ↓reduceIte]; rfl) (fun h8 => ?_) (fun h8 => ?_)
                · refine AW.seq_k fun K hK => AW.region (by kernel_rfl) ?_
                  simp -implicitDefEqProofs only [go_sem, seval, ↓reduceIte]
                  refine hK _ ?_
                  clear hK K
                  refine AW.ret ?_
                  simp -implicitDefEqProofs only [go_sem, seval, ↓reduceIte]
                  refine endK_some ?_
                  exact bad (.inr (.inr (.inr (.inl b4))))
                · simp at h8
              · have hd : (opn.length : Int) - (n.kids.l.length : Int) = ((opn.length - n.kids.l.length : Nat) : Int) := by omega
                have hkk : opn.length - n.kids.l.length + n.kids.l.length = opn.length := by omega
                have hlt : opn.length - n.kids.l.length < opn.length := by omega
                generalize hkd : opn.length - n.kids.l.length = kk at hd hkk hlt
                have hne : opn ≠ [] := by intro e; rw [e] at hlt; simp at hlt
                have hsl : (if kk = 0 then V.msl o g 0 opn.length 1 else if kk < opn.length then V.msl o g (kk * 1) (opn.length - kk) 1 else V.slice .any false 1 []) = .msl o g (kk * 1) n.kids.l.length 1 := by
                  by_cases h0 : kk = 0
                  · rw [if_pos h0]; congr 1 <;> omega
                  · rw [if_neg h0, if_pos hlt]; congr 1 <;> omega
                refine AW.seq_k fun K hK => AW.regionT ⟨fun i => if i = 29 then .bool (opn.drop kk == n.kids.l) else .top, fun i => if i = 29 then .lend else .pure⟩ (by kernel_rfl) hG (by kernel_rfl) (by kernel_rfl) ?_
                simp -implicitDefEqProofs only [go_sem, seval, ↓reduceIte, bne_t (show ¬ n.op = 1 by omega), bne_f a1, bne_f b2, decide_eq_false (show ¬ (n.kids.l.length : Int) < 2 by omega), hd, decide_eq_false (show ¬ ((kk : Nat) : Int) < 0 by omega), grown_ne o g 1 hne, Nat.le_of_lt hlt, Nat.le_refl, and_self, hsl, ne1, ne2]
                have hdt : (opn.drop kk).take n.kids.l.length = opn.drop kk := by rw [List.take_of_length_le]; rw [List.length_drop]; omega
                refine ⟨BorC.of [encSl .old 1 (V.int .i64) (.mk false ((opn.drop kk).take n.kids.l.length)), encSl c2.ent 1 (V.int .i64) n.kids] (by kernel_rfl) ⟨?_, Rd.im (Im.ints _) (by simp -implicitDefEqProofs only [go_sem, seval, ↓reduceIte]), trivial⟩ ((sEqual_spec G hG _ _ (.mk false ((opn.drop kk).take n.kids.l.length)) n.kids (by simp [Sl.l]; omega)).mono ?_), ?_⟩
                · exact Rd.msl (g := g) (fz := 0) (c := .new) (f := V.int .i64) (by simp -implicitDefEqProofs only [go_sem, seval, ↓reduceIte, ne3, ne4]; exact grownO_ne _ _ hne) (fun _ => rfl) (fun x y hy => by simp [V.cells] at hy; subst hy; exact .int _ _) (fun _ => rfl) (by omega)
                · rintro _ _ rfl
                  exact ⟨.bool _, by rw [Sl.l_mk, hdt]⟩
                refine hK _ ?_
                clear hK K
                refine AW.condS (by simp -implicitDefEqProofs only [go_sem, seval, ↓reduceIte]; rfl) (fun h8 => ?_) (fun h8 => ?_)
                · refine AW.seq_k fun K hK => AW.region (by kernel_rfl) ?_
                  simp -implicitDefEqProofs only [go_sem, seval, ↓reduceIte]
                  refine hK _ ?_
                  clear hK K
                  refine AW.ret ?_
                  simp -implicitDefEqProofs only [go_sem, seval, ↓reduceIte]
                  refine endK_some ?_
                  refine bad (.inr (.inr (.inr (.inr ?_))))
                  intro e
                  rw [hkd] at e
                  rw [e] at h8
                  simp at h8
                · refine AW.skip ?_
                  simp -implicitDefEqProofs only [go_sem, seval, ↓reduceIte]
                  refine hK8 _ () ?_ (Weak.st (by simp -implicitDefEqProofs only [go_sem, seval, ↓reduceIte]; exact ⟨(grown_ne o g 1 hne).symm, by rw [hkd]⟩) (by simp -implicitDefEqProofs only [go_sem, seval, ↓reduceIte, ne1, ne2, ne3, ne4]))
                  rw [hkd]
                  simp at h8
                  rintro (h | h | h | h | h)
                  · exact hnot h
                  · exact h b2
                  · exact b3 h
                  · exact b4 h
                  · exact h h8
          · refine AW.seq_k fun K hK => AW.regionT ⟨fun _ => .top, fun _ => .pure⟩ (by kernel_rfl) hG (by kernel_rfl) (by kernel_rfl) ?_
            simp -implicitDefEqProofs only [go_sem, seval, ↓reduceIte, bne_t (show ¬ n.op = 1 by omega), bne_f a1, bne_t b2, ne1, ne2]
            refine hK _ ?_
            clear hK K
            refine AW.condS (by simp -implicitDefEqProofs only [go_sem, seval, ↓reduceIte]; rfl) (fun h8 => ?_) (fun h8 => ?_)
            · refine AW.seq_k fun K hK => AW.region (by kernel_rfl) ?_
              simp -implicitDefEqProofs only [go_sem, seval, ↓reduceIte]
              refine hK _ ?_
              clear hK K
              refine AW.ret ?_
              simp -implicitDefEqProofs only [go_sem, seval, ↓reduceIte]
              refine endK_some ?_
              exact bad (.inr (.inl b2))
            · simp at h8
        · refine AW.seq_k fun K hK => AW.regionT ⟨fun _ => .top, fun _ => .pure⟩ (by kernel_rfl) hG (by kernel_rfl) (by kernel_rfl) ?_
          simp -implicitDefEqProofs only [go_sem, seval, ↓reduceIte, bne_t a1, bne_t a2, ne1, ne2]
          refine hK _ ?_
          clear hK K
          refine AW.condS (by simp -implicitDefEqProofs only [go_sem, seval, ↓reduceIte]; rfl) (fun h8 => ?_) (fun h8 => ?_)
          · refine AW.seq_k fun K hK => AW.region (by kernel_rfl) ?_
            simp -implicitDefEqProofs only [go_sem, seval, ↓reduceIte]
            refine hK _ ?_
            clear hK K
            refine AW.ret ?_
            simp -implicitDefEqProofs only [go_sem, seval, ↓reduceIte]
            refine endK_some ?_
            exact bad (.inl ⟨a1, a2⟩)
          · simp at h8
      · intro _ hin
        rw [if_neg hin] at hR
        have hkd0 : n.kids.l.length ≤ opn.length := by omega
        have hdrop : opn.drop (opn.length - n.kids.l.length) = n.kids.l := by
          refine Classical.byContradiction fun h => hin (.inr (.inr (.inr (.inr h))))
        have hkv : ∀ kid ∈ n.kids.l, 0 ≤ kid ∧ kid < (k : Int) := fun kid h => hov kid (List.mem_of_mem_drop (hdrop ▸ h))
        have hne : opn ≠ [] := by intro e; have h0 : opn.length = 0 := by rw [e]; rfl
                                  omega
        refine AW.seqJ (fun (_ : Unit) => st [(1, .ptr 1 g1 0), (3, grown o g 1 opn), (8, encSl c1 3 (encNd c2) t), (9, .int .i64 t.l.length), (10, .int .i64 k), (4, .int .i64 k), (6, .int .i64 ((opn.length - n.kids.l.length : Nat) : Int))] [(1, .cells .new g1 0 [encSl c1 3 (encNd c2) t]), (o, grownO g (V.int .i64) opn)])
          (fun _ => ¬ n.kids.l.any (sameOp t.l n) = true) (fun K10 hK10 => ?_) ?_
        · refine AW.seq_k fun K hK => AW.region (by kernel_rfl) ?_
          simp -implicitDefEqProofs only [go_sem, seval, ↓reduceIte, ne1, ne2]
          refine CallA.bor hG [encSl c2.ent 1 (V.int .i64) n.kids, .func (.func 34) [] [.view .old (encTree c1.ent c2.ent t), .view .old (encNd c2.ent n)]] (by kernel_rfl) ⟨Rd.im (Im.ints _) (by simp -implicitDefEqProofs only [go_sem, seval, ↓reduceIte]), Rd.funcL ⟨?_, ?_, trivial⟩, trivial⟩ ?_
          · exact Rd.ptr (v := encTree c1 c2 t) (c := .new) (fz := 0) (by simp -implicitDefEqProofs only [go_sem, seval, ↓reduceIte]) (by
              intro y hy
              simp only [encTree, V.cells, List.mem_cons, List.not_mem_nil, or_false] at hy
              subst hy; exact Im.nds _ _ _) (by simp -implicitDefEqProofs only [go_sem, seval, ↓reduceIte])
          · exact Rd.ptr (v := encNd c2 n) (c := .new) (fz := 0) (by simp -implicitDefEqProofs only [go_sem, seval, ↓reduceIte]) (by
              intro y hy
              simp only [encNd, V.cells, List.mem_cons, List.not_mem_nil, or_false] at hy
              rcases hy with rfl | rfl | rfl
              · exact .int _ _
              · exact .int _ _
              · exact Im.ints _) (by simp -implicitDefEqProofs only [go_sem, seval, ↓reduceIte])
          refine (fIContains_spec G hG _ n.kids hkl 34 [.view .old (encTree c1.ent c2.ent t), .view .old (encNd c2.ent n)] (by kernel_rfl) (sameOp t.l n) ?_ ?_).mono ?_
          · simp -implicitDefEqProofs only [go_sem, seval, ↓reduceIte, List.map_cons, List.map_nil]
          · intro kid hkid
            obtain ⟨h0, h1⟩ := hkv kid hkid
            have hlt : kid.toNat < t.l.length := by omega
            have hgm := List.getElem?_eq_getElem hlt
            refine (rightKid_spec G hG _ _ _ _ _ t n _ kid h0 hgm).mono ?_
            rintro _ _ rfl
            rw [sameOp, hgm]
          · rintro _ _ rfl
            refine ⟨.bool _, ?_⟩
            simp -implicitDefEqProofs only [go_sem, seval, ↓reduceIte]
            refine hK _ ?_
            clear hK K
            refine AW.condS (by simp -implicitDefEqProofs only [go_sem, seval, ↓reduceIte]; rfl) (fun h11 => ?_) (fun h11 => ?_)
            · refine AW.seq_k fun K hK => AW.region (by kernel_rfl) ?_
              simp -implicitDefEqProofs only [go_sem, seval, ↓reduceIte]
              refine hK _ ?_
              clear hK K
              refine AW.ret ?_
              simp -implicitDefEqProofs only [go_sem, seval, ↓reduceIte]
              refine endK_some ?_
              rw [if_pos h11] at hR
              rw [rightP, ← hR]
            · refine AW.skip ?_
              simp -implicitDefEqProofs only [go_sem, seval, ↓reduceIte]
              exact hK10 _ () (by rw [h11]; simp) (Weak.st (by simp -implicitDefEqProofs only [go_sem, seval, ↓reduceIte]) (by simp -implicitDefEqProofs only [go_sem, seval, ↓reduceIte, ne1, ne2, ne3, ne4]))
        · intro _ hany
          rw [if_neg hany] at hR
          generalize hkd : opn.length - n.kids.l.length = kk at hR hdrop
          have hlt : kk ≤ opn.length := by omega
          refine AW.region (by kernel_rfl) ?_
          simp -implicitDefEqProofs only [go_sem, seval, ↓reduceIte, grown_ne o g 1 hne, Nat.zero_le, hlt, and_self, ne1, ne3, ne7, ne8, grownO_ne g (V.int .i64) hne]
          intro g79
          refine ⟨roomOk_of (by omega) (by omega), by rw [flat_len (m := 1) (fun _ => rfl)]; omega, fun g2 => ?_⟩
          refine hK5 _ ?_
          refine AW.region (by kernel_rfl) ?_
          simp -implicitDefEqProofs only [go_sem, seval, ↓reduceIte]
          have hne2 : opn.take kk ++ [(k : Int)] ≠ [] := by simp
          have hlen2 : (opn.take kk ++ [(k : Int)]).length = kk + 1 := by simp; omega
          have hfl : (flat (opn.map (V.int .i64))).take (kk * 1) = flat ((opn.take kk).map (V.int .i64)) := by
            have := flat_drop (m := 1) (f := V.int .i64) (fun _ => rfl) opn (off := 0) (n := kk) (by omega)
            simpa using this
          refine hL2 _ ⟨hk1, ((o, g2), opn.take kk ++ [(k : Int)]), ⟨ho, hR, by rw [hlen2]; omega, ?_⟩, Weak.st (by simp -implicitDefEqProofs only [go_sem, seval, ↓reduceIte]; exact ⟨by rw [grown_ne _ _ _ hne2, hlen2], congrArg _ (w64 (by omega) (by omega))⟩) (by simp -implicitDefEqProofs only [go_sem, seval, ↓reduceIte, ne1]; rw [grownO_ne _ _ hne2, List.map_append, flat_app, hfl]; rfl)⟩
          intro y hy
          simp only [List.mem_append, List.mem_singleton] at hy
          rcases hy with hy | rfl
          · have := hov y (List.mem_of_mem_take hy)
            omega
          · omega
  · -- false
    refine AW.exit ?_
    simp -implicitDefEqProofs only [go_sem, seval, ↓reduceIte]
    refine hK1 _ ?_
    have hk1 : k = t.l.length := by simp at h4; omega
    refine AW.seq_k fun K hK => AW.region (by kernel_rfl) ?_
    simp -implicitDefEqProofs only [go_sem, seval, ↓reduceIte]
    refine hK _ ?_
    clear hK K
    refine AW.ret ?_
    simp -implicitDefEqProofs only [go_sem, seval, ↓reduceIte]
    refine endK_some ?_
    rw [hk1, List.drop_length, rightGo] at hR
    rw [rightP, ← hR]
    simp
    omega
end Go.Hs
end

section
namespace Go.Hs
/-- What holds of each node of a right row. -/
def NodeOk (n : Nd) (i : Nat) : Prop :=
  (n.op ≥ 3 ∧ n.op ≤ 7 ∧ n.kids.l = []) ∨ ((n.op = 1 ∨ n.op = 2) ∧ n.pl = 0 ∧ 2 ≤ n.kids.l.length ∧ ∀ kid ∈ n.kids.l, 0 ≤ kid ∧ kid < (i : Int))
theorem rightGo_ok (l : List Nd) : ∀ (r : List Nd) (i : Nat) (opn res : List Int), rightGo l r i opn = some res → (∀ y ∈ opn, 0 ≤ y ∧ y < (i : Int)) → ∀ j n, r[j]? = some n → NodeOk n (i + j)
  | [], i, opn, res, _, _, j, n, hn => by simp at hn
  | m :: r, i, opn, res, h, ho, j, n, hn => by
    rw [rightGo] at h
    have key : ∀ opn', rightGo l r (i + 1) opn' = some res → (∀ y ∈ opn', 0 ≤ y ∧ y < ((i + 1 : Nat) : Int)) → NodeOk m i → NodeOk n (i + j) := by
      intro opn' h1 h2 h3
      cases j with
      | zero =>
        simp at hn
        subst hn
        exact h3
      | succ j =>
        have := rightGo_ok l r (i + 1) opn' res h1 h2 j n (by simpa using hn)
        rwa [show i + (j + 1) = i + 1 + j by omega]
    split at h
    · rename_i h1
      refine key _ h ?_ (.inl ⟨h1.1, h1.2.1, List.length_eq_zero_iff.1 h1.2.2⟩)
      intro y hy
      simp only [List.mem_append, List.mem_singleton] at hy
      rcases hy with hy | rfl
      · have := ho y hy; omega
      · omega
    · split at h
      · cases h
      · rename_i h1 h2
        split at h
        · cases h
        · have hd : opn.drop (opn.length - m.kids.l.length) = m.kids.l := Classical.byContradiction fun e => h2 (.inr (.inr (.inr (.inr e))))
          refine key _ h ?_ (.inr ⟨by omega, by omega, by omega, fun kid hk => ho kid (List.mem_of_mem_drop (hd ▸ hk))⟩)
          intro y hy
          simp only [List.mem_append, List.mem_singleton] at hy
          rcases hy with hy | rfl
          · have := ho y (List.mem_of_mem_take hy); omega
          · omega
theorem rightP_ok {l : List Nd} (h : rightP l = true) : ∀ i n, l[i]? = some n → NodeOk n i := by
  unfold rightP at h
  split at h
  · rename_i res hr
    intro i n hn
    have := rightGo_ok l l 0 [] res hr (by simp) i n hn
    rwa [Nat.zero_add] at this
  · cases h
/-- The leaves that are ready, as the program walks to them. -/
def readyAt (l : List Nd) : Nat → Nat → List Int
  | 0, _ => []
  | f + 1, i => match l[i]? with
    | none => []
    | some n => if n.op = 1 then (match n.kids.l with | [] => [] | k :: _ => readyAt l f k.toNat)
      else if n.op = 2 then n.kids.l.flatMap fun k => readyAt l f k.toNat
      else [(i : Int)]
def readyP (l : List Nd) : List Int := if l.length = 0 ∨ rightP l = false then [] else readyAt l l.length (l.length - 1)
end Go.Hs
end

section
namespace Go.Hs
open Go.Proofs
set_option maxRecDepth 10000
def Pt.zero : Pt := .mk 0 0 none []
def Pt.leaf (op pl : Int) : Pt := if op < 3 ∨ op > 7 then .zero else .mk op pl none []
/- hopscotch/hopscotchref22.Leaf -/
theorem rLeaf_spec (G : Nat → V) (hG : GOk G) (op pl : Int) :
    Spec Try.prog G 25 [.int .u8 op, .int .i64 pl] hNone (fun v _ => v = encPt .any (Pt.leaf op pl)) := by
  refine Spec.of_code' 0 15 [ResultVar.cell 4 31] Try.func25 rfl rfl rfl rfl fun X => ?_
  refine AW.seq_k fun K hK => AW.region (by kernel_rfl) ?_
  simp -implicitDefEqProofs only [go_sem, seval, ↓reduceIte]
  intro g4
  refine hK _ ?_
  clear hK K
  refine AW.seq_k fun K1 hK1 => ?_
  have hfin : ∀ b, b = (decide (op < 3) || decide (op > 7)) → True := fun _ _ => trivial
  by_cases h0 : op < 3
  · refine AW.seq_k fun K hK => AW.region (by kernel_rfl) ?_
    simp -implicitDefEqProofs only [go_sem, seval, ↓reduceIte, decide_eq_true h0]
    refine hK _ ?_
    clear hK K
    refine AW.condS (by simp -implicitDefEqProofs only [go_sem, seval, ↓reduceIte]; rfl) (fun h2 => ?_) (fun h2 => ?_)
    · refine AW.seq_k fun K hK => AW.region (by kernel_rfl) ?_
      simp -implicitDefEqProofs only [go_sem, seval, ↓reduceIte]
      refine hK _ ?_
      clear hK K
      refine AW.ret ?_
      simp -implicitDefEqProofs only [go_sem, seval, ↓reduceIte]
      refine endK_some ?_
      rw [Pt.leaf, if_pos (.inl h0)]
      rfl
    · simp at h2
  · refine AW.seq_k fun K hK => AW.region (by kernel_rfl) ?_
    simp -implicitDefEqProofs only [go_sem, seval, ↓reduceIte, decide_eq_false h0]
    refine hK _ ?_
    clear hK K
    refine AW.condS (by simp -implicitDefEqProofs only [go_sem, seval, ↓reduceIte]; rfl) (fun h2 => ?_) (fun h2 => ?_)
    · refine AW.seq_k fun K hK => AW.region (by kernel_rfl) ?_
      simp -implicitDefEqProofs only [go_sem, seval, ↓reduceIte]
      refine hK _ ?_
      clear hK K
      refine AW.ret ?_
      simp -implicitDefEqProofs only [go_sem, seval, ↓reduceIte]
      refine endK_some ?_
      have h1 : op > 7 := by simpa using h2
      rw [Pt.leaf, if_pos (.inr h1)]
      rfl
    · refine AW.skip ?_
      simp -implicitDefEqProofs only [go_sem, seval, ↓reduceIte]
      refine hK1 _ ?_
      refine AW.seq_k fun K hK => AW.region (by kernel_rfl) ?_
      simp -implicitDefEqProofs only [go_sem, seval, ↓reduceIte]
      refine hK _ ?_
      clear hK K
      refine AW.ret ?_
      simp -implicitDefEqProofs only [go_sem, seval, ↓reduceIte]
      refine endK_some ?_
      have h1 : ¬ op > 7 := by simpa using h2
      rw [Pt.leaf, if_neg (by omega)]
      rfl
end Go.Hs
end

section
namespace Go.Hs
open Go.Proofs
set_option maxRecDepth 10000
/-- The parts of a node, read from behind. -/
def partKs (rec : Int → Pt × Int × Bool) (op : Int) : List Int → Int → List Pt → Option (List Pt × Int)
  | [], first, acc => some (acc, first)
  | k :: r, first, acc => if k ≠ first - 1 then none else
      if (rec (first - 1)).2.2 = false ∨ (rec (first - 1)).1.op = op then none else partKs rec op r (rec (first - 1)).2.1 ((rec (first - 1)).1 :: acc)
/-- The tree whose last node stands at a place. -/
def partP : Nat → List Nd → Int → Pt × Int × Bool
  | 0, _, _ => (Pt.zero, 0, false)
  | f + 1, l, pl => if pl < 0 then (Pt.zero, 0, false) else
      match l[pl.toNat]? with
      | none => (Pt.zero, 0, false)
      | some n =>
        if n.op ≥ 3 ∧ n.op ≤ 7 ∧ n.kids.l.length = 0 then (.mk n.op n.pl none [], pl, true)
        else if (n.op ≠ 1 ∧ n.op ≠ 2) ∨ n.kids.l.length < 2 ∨ n.pl ≠ 0 then (Pt.zero, 0, false)
        else match partKs (partP f l) n.op n.kids.l.reverse pl [] with
          | some (kids, first) => (Pt.of n.op 0 (grownS kids), first, true)
          | none => (Pt.zero, 0, false)
theorem partKs_first {rec : Int → Pt × Int × Bool} {op : Int} (hrec : ∀ x, (rec x).2.2 = true → 0 ≤ (rec x).2.1 ∧ (rec x).2.1 ≤ x) : ∀ (l : List Int) (first : Int) (acc : List Pt) {kids : List Pt} {f : Int},
    0 ≤ first → partKs rec op l first acc = some (kids, f) → 0 ≤ f ∧ f ≤ first
  | [], first, acc, kids, f, h0, h => by simp [partKs] at h; omega
  | k :: r, first, acc, kids, f, h0, h => by
    rw [partKs] at h
    split at h
    · cases h
    · split at h
      · cases h
      · rename_i h1
        have h2 := hrec (first - 1) (by cases hb : (rec (first - 1)).2.2 with | true => rfl | false => exact absurd (.inl hb) h1)
        have := partKs_first hrec r _ _ h2.1 h
        omega
theorem partP_first : ∀ (f : Nat) (l : List Nd) (pl : Int), (partP f l pl).2.2 = true → 0 ≤ (partP f l pl).2.1 ∧ (partP f l pl).2.1 ≤ pl
  | 0, l, pl, h => by simp [partP] at h
  | f + 1, l, pl, h => by
    rw [partP] at h ⊢
    split at h
    · cases h
    · rename_i h0
      rw [if_neg h0]
      split at h
      · cases h
      · rename_i n hn
        split at h
        · rename_i h1
          rw [if_pos h1]
          simp; omega
        · rename_i h1
          rw [if_neg h1]
          split at h
          · cases h
          · rename_i h2
            rw [if_neg h2]
            split at h
            · rename_i kids first hk
              exact partKs_first (fun x hx => partP_first f l x hx) _ _ _ (by omega) hk
            · cases h
def encPr (c : Col) (r : Pt × Int × Bool) : V := .tuple [encPt c r.1, .int .i64 r.2.1, .bool r.2.2]
theorem encPt_zero (c : Col) : encPt c Pt.zero = .agg [.int .u8 0, .int .i64 0, .nils] := rfl
/- hopscotch/hopscotchref22.part -/
theorem rPart_spec (G : Nat → V) (hG : GOk G) : ∀ (f : Nat) (c1 c2 : Col) (l : Sl Nd) (pl : Int), pl < f → -100 < pl → pl < 1000000000 → l.l.length < 1000000000 → (∀ n ∈ l.l, n.kids.l.length < 1000000000) →
    Spec Try.prog G 26 [encNds c1 c2 l, .int .i64 pl] hNone (fun v _ => v = encPr .any (partP f l.l pl)) := by
  intro f
  induction f with
  | zero =>
    intro c1 c2 l pl h1 h2 h3 h4 hks
    refine Spec.of_code' 0 115 [ResultVar.cell 4 31, .tmp 5, .tmp 6] Try.func26 rfl rfl rfl rfl fun X => ?_
    refine AW.seq_k fun K hK => AW.region (by kernel_rfl) ?_
    simp -implicitDefEqProofs only [go_sem, seval, ↓reduceIte]
    intro g4
    refine hK _ ?_
    clear hK K
    refine AW.seq_k fun K1 hK1 => ?_
    refine AW.seq_k fun K hK => AW.region (by kernel_rfl) ?_
    simp -implicitDefEqProofs only [go_sem, seval, ↓reduceIte, decide_eq_true (show pl < 0 by omega)]
    refine hK _ ?_
    clear hK K
    refine AW.condS (by simp -implicitDefEqProofs only [go_sem, seval, ↓reduceIte]; rfl) (fun h2 => ?_) (fun h2 => ?_)
    · refine AW.seq_k fun K hK => AW.region (by kernel_rfl) ?_
      simp -implicitDefEqProofs only [go_sem, seval, ↓reduceIte]
      refine hK _ ?_
      clear hK K
      refine AW.ret ?_
      simp -implicitDefEqProofs only [go_sem, seval, ↓reduceIte]
      refine endK_some ?_
      rfl
    · simp at h2
  | succ f ih =>
  intro c1 c2 l pl h1 h2 h3 h4 hks
  refine Spec.of_code' 0 115 [ResultVar.cell 4 31, .tmp 5, .tmp 6] Try.func26 rfl rfl rfl rfl fun X => ?_
  refine AW.seq_k fun K hK => AW.region (by kernel_rfl) ?_
  simp -implicitDefEqProofs only [go_sem, seval, ↓reduceIte]
  intro g4
  refine hK _ ?_
  clear hK K
  by_cases hp : pl < 0
  · refine AW.seq_k fun K1 hK1 => ?_
    refine AW.seq_k fun K hK => AW.region (by kernel_rfl) ?_
    simp -implicitDefEqProofs only [go_sem, seval, ↓reduceIte, decide_eq_true hp]
    refine hK _ ?_
    clear hK K
    refine AW.condS (by simp -implicitDefEqProofs only [go_sem, seval, ↓reduceIte]; rfl) (fun h2 => ?_) (fun h2 => ?_)
    · refine AW.seq_k fun K hK => AW.region (by kernel_rfl) ?_
      simp -implicitDefEqProofs only [go_sem, seval, ↓reduceIte]
      refine hK _ ?_
      clear hK K
      refine AW.ret ?_
      simp -implicitDefEqProofs only [go_sem, seval, ↓reduceIte]
      refine endK_some ?_
      rw [partP, if_pos hp]
      rfl
    · simp at h2
  · obtain ⟨p, rfl⟩ : ∃ p : Nat, pl = p := ⟨pl.toNat, by omega⟩
    refine AW.seq_k fun K1 hK1 => ?_
    refine AW.seq_k fun K hK => AW.region (by kernel_rfl) ?_
    simp -implicitDefEqProofs only [go_sem, seval, ↓reduceIte, decide_eq_false hp]
    refine hK _ ?_
    clear hK K
    refine AW.condS (by simp -implicitDefEqProofs only [go_sem, seval, ↓reduceIte]; rfl) (fun h2 => ?_) (fun h2 => ?_)
    · -- true
      have hpl : l.l.length ≤ p := by simp at h2; omega
      refine AW.seq_k fun K hK => AW.region (by kernel_rfl) ?_
      simp -implicitDefEqProofs only [go_sem, seval, ↓reduceIte]
      refine hK _ ?_
      clear hK K
      refine AW.ret ?_
      simp -implicitDefEqProofs only [go_sem, seval, ↓reduceIte]
      refine endK_some ?_
      rw [partP, if_neg hp, show (p : Int).toNat = p from rfl, List.getElem?_eq_none hpl]
      rfl
    · -- false
      refine AW.skip ?_
      simp -implicitDefEqProofs only [go_sem, seval, ↓reduceIte]
      refine hK1 _ ?_
      have hpl : p < l.l.length := by simp at h2; omega
      have hgi := List.getElem?_eq_getElem hpl
      have hnm := List.getElem_mem hpl
      generalize l.l[p] = n at hnm hgi
      have hkl := hks n hnm
      have hP : partP (f + 1) l.l p = if n.op ≥ 3 ∧ n.op ≤ 7 ∧ n.kids.l.length = 0 then (.mk n.op n.pl none [], (p : Int), true)
        else if (n.op ≠ 1 ∧ n.op ≠ 2) ∨ n.kids.l.length < 2 ∨ n.pl ≠ 0 then (Pt.zero, 0, false)
        else match partKs (partP f l.l) n.op n.kids.l.reverse p [] with
          | some (kids, first) => (Pt.of n.op 0 (grownS kids), first, true)
          | none => (Pt.zero, 0, false) := by
        rw [partP, if_neg hp, show (p : Int).toNat = p from rfl, hgi]
      refine AW.seq_k fun K hK => AW.region (by kernel_rfl) ?_
      simp -implicitDefEqProofs only [go_sem, seval, ↓reduceIte, hgi]
      intro g7
      refine hK _ ?_
      clear hK K
      refine AW.seqJ (fun (_ : Unit) => st [(0, encNds c1 c2 l), (1, .int .i64 p), (4, .ptr 4 g4 0), (7, .ptr 7 g7 0)] [(4, .cells .new g4 0 [.int .u8 0, .int .i64 0, .nils]), (7, .cells .new g7 0 [.int .u8 n.op, .int .i64 n.pl, encSl c2 1 (V.int .i64) n.kids])])
        (fun _ => ¬ (n.op ≥ 3 ∧ n.op ≤ 7 ∧ n.kids.l.length = 0)) (fun K3 hK3 => ?_) ?_
      · by_cases a1 : n.op ≥ 3
        · by_cases a2 : n.op ≤ 7
          · refine AW.seq_k fun K hK => AW.region (by kernel_rfl) ?_
            simp -implicitDefEqProofs only [go_sem, seval, ↓reduceIte, decide_eq_true a1, decide_eq_true a2]
            refine hK _ ?_
            clear hK K
            refine AW.condS (by simp -implicitDefEqProofs only [go_sem, seval, ↓reduceIte]; rfl) (fun h4 => ?_) (fun h4 => ?_)
            · have a3 : n.kids.l.length = 0 := by simp at h4; simp [h4]
              refine AW.seq_k fun K hK => AW.region (by kernel_rfl) ?_
              simp -implicitDefEqProofs only [go_sem, seval, ↓reduceIte]
              refine hK _ ?_
              clear hK K
              refine AW.ret ?_
              simp -implicitDefEqProofs only [go_sem, seval, ↓reduceIte]
              refine endK_some ?_
              rw [hP, if_pos ⟨a1, a2, a3⟩]
              rfl
            · have a3 : ¬ n.kids.l.length = 0 := by simp at h4; simp [h4]
              refine AW.skip ?_
              simp -implicitDefEqProofs only [go_sem, seval, ↓reduceIte]
              exact hK3 _ () (fun e => a3 e.2.2) (Weak.st (by simp -implicitDefEqProofs only [go_sem, seval, ↓reduceIte]) (by simp -implicitDefEqProofs only [go_sem, seval, ↓reduceIte]))
          · refine AW.seq_k fun K hK => AW.region (by kernel_rfl) ?_
            simp -implicitDefEqProofs only [go_sem, seval, ↓reduceIte, decide_eq_true a1, decide_eq_false a2]
            refine hK _ ?_
            clear hK K
            refine AW.condS (by simp -implicitDefEqProofs only [go_sem, seval, ↓reduceIte]; rfl) (fun h4 => ?_) (fun h4 => ?_)
            · simp at h4
            · refine AW.skip ?_
              simp -implicitDefEqProofs only [go_sem, seval, ↓reduceIte]
              exact hK3 _ () (fun e => a2 e.2.1) (Weak.st (by simp -implicitDefEqProofs only [go_sem, seval, ↓reduceIte]) (by simp -implicitDefEqProofs only [go_sem, seval, ↓reduceIte]))
        · refine AW.seq_k fun K hK => AW.region (by kernel_rfl) ?_
          simp -implicitDefEqProofs only [go_sem, seval, ↓reduceIte, decide_eq_false a1]
          refine hK _ ?_
          clear hK K
          refine AW.condS (by simp -implicitDefEqProofs only [go_sem, seval, ↓reduceIte]; rfl) (fun h4 => ?_) (fun h4 => ?_)
          · simp at h4
          · refine AW.skip ?_
            simp -implicitDefEqProofs only [go_sem, seval, ↓reduceIte]
            exact hK3 _ () (fun e => a1 e.1) (Weak.st (by simp -implicitDefEqProofs only [go_sem, seval, ↓reduceIte]) (by simp -implicitDefEqProofs only [go_sem, seval, ↓reduceIte]))
      · intro _ hnl
        rw [if_neg hnl] at hP
        refine AW.seqJ (fun (_ : Unit) => st [(0, encNds c1 c2 l), (1, .int .i64 p), (4, .ptr 4 g4 0), (7, .ptr 7 g7 0)] [(4, .cells .new g4 0 [.int .u8 0, .int .i64 0, .nils]), (7, .cells .new g7 0 [.int .u8 n.op, .int .i64 n.pl, encSl c2 1 (V.int .i64) n.kids])])
          (fun _ => ¬ ((n.op ≠ 1 ∧ n.op ≠ 2) ∨ n.kids.l.length < 2 ∨ n.pl ≠ 0)) (fun K3 hK3 => ?_) ?_
        · have bad : ((n.op ≠ 1 ∧ n.op ≠ 2) ∨ n.kids.l.length < 2 ∨ n.pl ≠ 0) → V.tuple [encPt .any Pt.zero, .int .i64 0, .bool false] = encPr .any (partP (f + 1) l.l p) := by
            intro hb
            rw [hP, if_pos hb]
            rfl
          have two : (n.op = 1 ∨ n.op = 2) ∨ (n.op ≠ 1 ∧ n.op ≠ 2) := by omega
          rcases two with two | ⟨a1, a2⟩
          · have fin : ∀ b, (n.op = 1 ∧ b = bne_f (a := n.op) (b := 1)) ∨ True := fun _ => .inr trivial
            by_cases a3 : n.kids.l.length < 2
            · rcases two with a1 | a1
              · refine AW.seq_k fun K hK => AW.region (by kernel_rfl) ?_
                simp -implicitDefEqProofs only [go_sem, seval, ↓reduceIte, bne_f a1, decide_eq_true (show (n.kids.l.length : Int) < 2 by omega)]
                refine hK _ ?_
                clear hK K
                refine AW.condS (by simp -implicitDefEqProofs only [go_sem, seval, ↓reduceIte]; rfl) (fun h5 => ?_) (fun h5 => ?_)
                · refine AW.seq_k fun K hK => AW.region (by kernel_rfl) ?_
                  simp -implicitDefEqProofs only [go_sem, seval, ↓reduceIte]
                  refine hK _ ?_
                  clear hK K
                  refine AW.ret ?_
                  simp -implicitDefEqProofs only [go_sem, seval, ↓reduceIte]
                  refine endK_some ?_
                  exact bad (.inr (.inl a3))
                · simp at h5
              · refine AW.seq_k fun K hK => AW.region (by kernel_rfl) ?_
                simp -implicitDefEqProofs only [go_sem, seval, ↓reduceIte, bne_t (show ¬ n.op = 1 by omega), bne_f a1, decide_eq_true (show (n.kids.l.length : Int) < 2 by omega)]
                refine hK _ ?_
                clear hK K
                refine AW.condS (by simp -implicitDefEqProofs only [go_sem, seval, ↓reduceIte]; rfl) (fun h5 => ?_) (fun h5 => ?_)
                · refine AW.seq_k fun K hK => AW.region (by kernel_rfl) ?_
                  simp -implicitDefEqProofs only [go_sem, seval, ↓reduceIte]
                  refine hK _ ?_
                  clear hK K
                  refine AW.ret ?_
                  simp -implicitDefEqProofs only [go_sem, seval, ↓reduceIte]
                  refine endK_some ?_
                  exact bad (.inr (.inl a3))
                · simp at h5
            · rcases two with a1 | a1
              · refine AW.seq_k fun K hK => AW.region (by kernel_rfl) ?_
                simp -implicitDefEqProofs only [go_sem, seval, ↓reduceIte, bne_f a1, decide_eq_false (show ¬ (n.kids.l.length : Int) < 2 by omega)]
                refine hK _ ?_
                clear hK K
                refine AW.condS (by simp -implicitDefEqProofs only [go_sem, seval, ↓reduceIte]; rfl) (fun h5 => ?_) (fun h5 => ?_)
                · have a4 : n.pl ≠ 0 := by simpa using h5
                  refine AW.seq_k fun K hK => AW.region (by kernel_rfl) ?_
                  simp -implicitDefEqProofs only [go_sem, seval, ↓reduceIte]
                  refine hK _ ?_
                  clear hK K
                  refine AW.ret ?_
                  simp -implicitDefEqProofs only [go_sem, seval, ↓reduceIte]
                  refine endK_some ?_
                  exact bad (.inr (.inr a4))
                · have a4 : n.pl = 0 := by simpa using h5
                  refine AW.skip ?_
                  simp -implicitDefEqProofs only [go_sem, seval, ↓reduceIte]
                  exact hK3 _ () (by omega) (Weak.st (by simp -implicitDefEqProofs only [go_sem, seval, ↓reduceIte]) (by simp -implicitDefEqProofs only [go_sem, seval, ↓reduceIte]))
              · refine AW.seq_k fun K hK => AW.region (by kernel_rfl) ?_
                simp -implicitDefEqProofs only [go_sem, seval, ↓reduceIte, bne_t (show ¬ n.op = 1 by omega), bne_f a1, decide_eq_false (show ¬ (n.kids.l.length : Int) < 2 by omega)]
                refine hK _ ?_
                clear hK K
                refine AW.condS (by simp -implicitDefEqProofs only [go_sem, seval, ↓reduceIte]; rfl) (fun h5 => ?_) (fun h5 => ?_)
                · have a4 : n.pl ≠ 0 := by simpa using h5
                  refine AW.seq_k fun K hK => AW.region (by kernel_rfl) ?_
                  simp -implicitDefEqProofs only [go_sem, seval, ↓reduceIte]
                  refine hK _ ?_
                  clear hK K
                  refine AW.ret ?_
                  simp -implicitDefEqProofs only [go_sem, seval, ↓reduceIte]
                  refine endK_some ?_
                  exact bad (.inr (.inr a4))
                · have a4 : n.pl = 0 := by simpa using h5
                  refine AW.skip ?_
                  simp -implicitDefEqProofs only [go_sem, seval, ↓reduceIte]
                  exact hK3 _ () (by omega) (Weak.st (by simp -implicitDefEqProofs only [go_sem, seval, ↓reduceIte]) (by simp -implicitDefEqProofs only [go_sem, seval, ↓reduceIte]))
          · refine AW.seq_k fun K hK => AW.region (by kernel_rfl) ?_
            simp -implicitDefEqProofs only [go_sem, seval, ↓reduceIte, bne_t a1, bne_t a2]
            refine hK _ ?_
            clear hK K
            refine AW.condS (by simp -implicitDefEqProofs only [go_sem, seval, ↓reduceIte]; rfl) (fun h5 => ?_) (fun h5 => ?_)
            · refine AW.seq_k fun K hK => AW.region (by kernel_rfl) ?_
              simp -implicitDefEqProofs only [go_sem, seval, ↓reduceIte]
              refine hK _ ?_
              clear hK K
              refine AW.ret ?_
              simp -implicitDefEqProofs only [go_sem, seval, ↓reduceIte]
              refine endK_some ?_
              exact bad (.inl ⟨a1, a2⟩)
            · simp at h5
        · intro _ hin
          rw [if_neg hin] at hP
          refine AW.seq_k fun K hK => AW.region (by kernel_rfl) ?_
          simp -implicitDefEqProofs only [go_sem, seval, ↓reduceIte]
          refine hK _ ?_
          clear hK K
          refine AW.seq_k fun K hK => AW.region (by kernel_rfl) ?_
          simp -implicitDefEqProofs only [go_sem, seval, ↓reduceIte]
          refine hK _ ?_
          clear hK K
          refine AW.seq_k fun K7 hK7 => ?_
          refine AW.seq_k fun K hK => AW.region (by kernel_rfl) ?_
          simp -implicitDefEqProofs only [go_sem, seval, ↓reduceIte]
          refine hK _ ?_
          clear hK K
          refine AW.block ?_
          refine AW.for n.kids.l.length (fun k (x : List Pt × Int) => st [(0, encNds c1 c2 l), (1, .int .i64 p), (4, .ptr 4 g4 0), (7, .ptr 7 g7 0), (8, encSl .any 3 (encPt .any) (grownS x.1)), (9, .int .i64 x.2), (10, .int .i64 ((n.kids.l.length : Int) - 1 - k))]
              [(4, .cells .new g4 0 [.int .u8 0, .int .i64 0, .nils]), (7, .cells .new g7 0 [.int .u8 n.op, .int .i64 n.pl, encSl c2 1 (V.int .i64) n.kids])])
            (fun k x => partKs (partP f l.l) n.op n.kids.l.reverse p [] = partKs (partP f l.l) n.op (n.kids.l.reverse.drop k) x.2 x.1 ∧ 0 ≤ x.2 ∧ x.2 ≤ p ∧ x.1.length = k) 0 ([], (p : Int)) (Nat.zero_le _) (by simp)
            (Weak.st (by simp -implicitDefEqProofs only [go_sem, seval, ↓reduceIte]; simp [w64 (n := (n.kids.l.length : Int) - 1) (by omega) (by omega)]; rfl) (by simp -implicitDefEqProofs only [go_sem, seval, ↓reduceIte])) ?_
          rintro k ⟨acc, first⟩ hk ⟨hR, hf0, hfp, hal⟩ L8 hL8
          refine AW.seq_k fun K9 hK9 => ?_
          refine AW.seq_k fun K hK => AW.region (by kernel_rfl) ?_
          simp -implicitDefEqProofs only [go_sem, seval, ↓reduceIte]
          refine hK _ ?_
          clear hK K
          refine AW.condS (by simp -implicitDefEqProofs only [go_sem, seval, ↓reduceIte]; rfl) (fun h10 => ?_) (fun h10 => ?_)
          · -- true
            refine AW.skip ?_
            simp -implicitDefEqProofs only [go_sem, seval, ↓reduceIte]
            refine hK9 _ ?_
            have hk1 : k < n.kids.l.length := by simp at h10; omega
            have hidx : (n.kids.l.length : Int) - 1 - k = ((n.kids.l.length - 1 - k : Nat) : Int) := by omega
            have hlt : n.kids.l.length - 1 - k < n.kids.l.length := by omega
            have hgk := List.getElem?_eq_getElem hlt
            have hkr : k < n.kids.l.reverse.length := by simpa using hk1
            have hrk : n.kids.l.reverse[k] = n.kids.l[n.kids.l.length - 1 - k] := List.getElem_reverse _
            rw [List.drop_eq_getElem_cons hkr, hrk, partKs] at hR
            have hw : IntKind.i64.wrap (first - 1) = first - 1 := w64 (by omega) (by omega)
            generalize n.kids.l[n.kids.l.length - 1 - k] = kv at hgk hR
            refine AW.seq_k fun K11 hK11 => ?_
            refine AW.block ?_
            refine AW.seq_k fun K12 hK12 => ?_
            refine AW.seq_k fun K hK => AW.region (by kernel_rfl) ?_
            simp -implicitDefEqProofs only [go_sem, seval, ↓reduceIte, hidx, hgk, hw]
            refine hK _ ?_
            clear hK K
            refine AW.condS (by simp -implicitDefEqProofs only [go_sem, seval, ↓reduceIte]; rfl) (fun h13 => ?_) (fun h13 => ?_)
            · -- true
              refine AW.seq_k fun K hK => AW.region (by kernel_rfl) ?_
              simp -implicitDefEqProofs only [go_sem, seval, ↓reduceIte]
              refine hK _ ?_
              clear hK K
              refine AW.ret ?_
              simp -implicitDefEqProofs only [go_sem, seval, ↓reduceIte]
              refine endK_some ?_
              rw [if_pos (by simpa using h13)] at hR
              rw [hP, hR]
              rfl
            · -- false
              refine AW.skip ?_
              simp -implicitDefEqProofs only [go_sem, seval, ↓reduceIte]
              refine hK12 _ ?_
              rw [if_neg (by simpa using h13)] at hR
              have hfst := partP_first f l.l (first - 1)
              refine AW.seq_k fun K hK => AW.region (by kernel_rfl) ?_
              simp -implicitDefEqProofs only [go_sem, seval, ↓reduceIte, hw]
              refine CallA.pure hG (by kernel_rfl) ?_
              simp -implicitDefEqProofs only [go_sem, seval, ↓reduceIte]
              refine (ih _ _ l (first - 1) (by omega) (by omega) (by omega) h4 hks).mono ?_
              rintro _ _ rfl
              generalize partP f l.l (first - 1) = r at hR hfst
              simp only [encPr]
              simp -implicitDefEqProofs only [go_sem, seval, ↓reduceIte]
              intro g11
              refine hK _ ?_
              clear hK K
              have bad : (r.2.2 = false ∨ r.1.op = n.op) → V.tuple [encPt .any Pt.zero, .int .i64 0, .bool false] = encPr .any (partP (f + 1) l.l p) := by
                intro hb
                rw [if_pos hb] at hR
                rw [hP, hR]
                rfl
              refine AW.seqJ (fun (_ : Unit) => st [(0, encNds c1 c2 l), (1, .int .i64 p), (4, .ptr 4 g4 0), (7, .ptr 7 g7 0), (8, encSl .any 3 (encPt .any) (grownS acc)), (10, .int .i64 ((n.kids.l.length - 1 - k : Nat) : Int)), (11, .ptr 11 g11 0), (12, .int .i64 r.2.1)]
                  [(4, .cells .new g4 0 [.int .u8 0, .int .i64 0, .nils]), (7, .cells .new g7 0 [.int .u8 n.op, .int .i64 n.pl, encSl c2 1 (V.int .i64) n.kids]), (11, .cells .new g11 0 [.int .u8 r.1.op, .int .i64 r.1.pl, encSl .any 3 (encPt .any) r.1.ks])])
                (fun _ => ¬ (r.2.2 = false ∨ r.1.op = n.op)) (fun K14 hK14 => ?_) ?_
              · by_cases a1 : r.2.2 = true
                · refine AW.seq_k fun K hK => AW.region (by kernel_rfl) ?_
                  simp -implicitDefEqProofs only [go_sem, seval, ↓reduceIte, a1]
                  refine hK _ ?_
                  clear hK K
                  refine AW.condS (by simp -implicitDefEqProofs only [go_sem, seval, ↓reduceIte]; rfl) (fun h15 => ?_) (fun h15 => ?_)
                  · -- true
                    refine AW.seq_k fun K hK => AW.region (by kernel_rfl) ?_
                    simp -implicitDefEqProofs only [go_sem, seval, ↓reduceIte]
                    refine hK _ ?_
                    clear hK K
                    refine AW.ret ?_
                    simp -implicitDefEqProofs only [go_sem, seval, ↓reduceIte]
                    refine endK_some ?_
                    exact bad (.inr (by simpa using h15))
                  · refine AW.skip ?_
                    simp -implicitDefEqProofs only [go_sem, seval, ↓reduceIte]
                    exact hK14 _ () (by simp at h15; simp [a1, h15]) (Weak.st (by simp -implicitDefEqProofs only [go_sem, seval, ↓reduceIte]) (by simp -implicitDefEqProofs only [go_sem, seval, ↓reduceIte]))
                · have a1 : r.2.2 = false := by simpa using a1
                  refine AW.seq_k fun K hK => AW.region (by kernel_rfl) ?_
                  simp -implicitDefEqProofs only [go_sem, seval, ↓reduceIte, a1]
                  refine hK _ ?_
                  clear hK K
                  refine AW.condS (by simp -implicitDefEqProofs only [go_sem, seval, ↓reduceIte]; rfl) (fun h15 => ?_) (fun h15 => ?_)
                  · -- true
                    refine AW.seq_k fun K hK => AW.region (by kernel_rfl) ?_
                    simp -implicitDefEqProofs only [go_sem, seval, ↓reduceIte]
                    refine hK _ ?_
                    clear hK K
                    refine AW.ret ?_
                    simp -implicitDefEqProofs only [go_sem, seval, ↓reduceIte]
                    refine endK_some ?_
                    exact bad (.inl a1)
                  · simp at h15
              · intro _ hok
                rw [if_neg hok] at hR
                have hb := hfst (by cases hb : r.2.2 with | true => rfl | false => exact absurd (.inl hb) hok)
                refine AW.seq_k fun K hK => AW.region (by kernel_rfl) ?_
                simp -implicitDefEqProofs only [go_sem, seval, ↓reduceIte]
                intro g105
                refine hK _ ?_
                clear hK K
                refine AW.seq_k fun K hK => AW.region (by kernel_rfl) ?_
                simp -implicitDefEqProofs only [go_sem, seval, ↓reduceIte]
                refine ⟨roomOk_of (by omega) (by simp at hal ⊢; omega), fun g2 => ?_⟩
                refine hK _ ?_
                clear hK K
                refine AW.weak (Weak.stF (fun o => o == 105) (l := [(0, encNds c1 c2 l), (1, .int .i64 p), (4, .ptr 4 g4 0), (7, .ptr 7 g7 0), (8, encSl .new 3 (encPt .any) (grownS (r.1 :: acc))), (10, .int .i64 ((n.kids.l.length - 1 - k : Nat) : Int)), (12, .int .i64 r.2.1)])
                  (m := [(4, .cells .new g4 0 [.int .u8 0, .int .i64 0, .nils]), (7, .cells .new g7 0 [.int .u8 n.op, .int .i64 n.pl, encSl c2 1 (V.int .i64) n.kids])]) ?_ ?_) ?_
                · simp -implicitDefEqProofs only [go_sem, seval, ↓reduceIte]
                  refine ⟨Fz.same _, Fz.same _, Fz.same _, Fz.same _, ?_, Fz.same _, Fz.same _⟩
                  rw [Nat.add_comm 1 acc.length]
                  refine Fz.sl (l := r.1 :: acc) (c := .new) (g := g2) (fz := 0) rfl ?_ (encPt_cells _)
                  simp -implicitDefEqProofs only [go_sem, seval, ↓reduceIte]
                  simp only [flat, List.map_cons, List.flatMap_cons, encPt_K]
                  rfl
                · simp only [allFzO_cons, allFzO_nil, and_true]
                  exact ⟨FzO.keep rfl (by simp -implicitDefEqProofs only [go_sem, seval, ↓reduceIte]), FzO.keep rfl (by simp -implicitDefEqProofs only [go_sem, seval, ↓reduceIte])⟩
                refine AW.weak (Weak.stF (fun o => false) (l := [(0, encNds c1 c2 l), (1, .int .i64 p), (4, .ptr 4 g4 0), (7, .ptr 7 g7 0), (8, encSl .any 3 (encPt .any) (grownS (r.1 :: acc))), (10, .int .i64 ((n.kids.l.length - 1 - k : Nat) : Int)), (12, .int .i64 r.2.1)])
                  (m := [(4, .cells .new g4 0 [.int .u8 0, .int .i64 0, .nils]), (7, .cells .new g7 0 [.int .u8 n.op, .int .i64 n.pl, encSl c2 1 (V.int .i64) n.kids])]) ?_ ?_) ?_
                · simp -implicitDefEqProofs only [go_sem, seval, ↓reduceIte]
                  exact ⟨Fz.same _, Fz.same _, Fz.same _, Fz.same _, Fz.any (by simp -implicitDefEqProofs only [go_sem, seval, ↓reduceIte]), Fz.same _, Fz.same _⟩
                · simp only [allFzO_cons, allFzO_nil, and_true]
                  exact ⟨FzO.keep rfl (by simp -implicitDefEqProofs only [go_sem, seval, ↓reduceIte]), FzO.keep rfl (by simp -implicitDefEqProofs only [go_sem, seval, ↓reduceIte])⟩
                refine AW.region (by kernel_rfl) ?_
                simp -implicitDefEqProofs only [go_sem, seval, ↓reduceIte]
                refine hK11 _ ?_
                refine AW.region (by kernel_rfl) ?_
                simp -implicitDefEqProofs only [go_sem, seval, ↓reduceIte]
                refine hL8 _ ⟨hk1, (r.1 :: acc, r.2.1), ⟨hR, hb.1, by simp at hfp ⊢; omega, by simp at hal ⊢; exact hal⟩, Weak.st (by simp -implicitDefEqProofs only [go_sem, seval, ↓reduceIte]; exact congrArg _ (by rw [w64 (by omega) (by omega)]; omega)) (by simp -implicitDefEqProofs only [go_sem, seval, ↓reduceIte])⟩
          · -- false
            refine AW.exit ?_
            simp -implicitDefEqProofs only [go_sem, seval, ↓reduceIte]
            refine hK7 _ ?_
            have hk1 : k = n.kids.l.length := by simp at h10; omega
            have hdr : n.kids.l.reverse.drop k = [] := by rw [hk1]; simp
            rw [hdr, partKs] at hR
            refine AW.seq_k fun K hK => AW.region (by kernel_rfl) ?_
            simp -implicitDefEqProofs only [go_sem, seval, ↓reduceIte]
            refine hK _ ?_
            clear hK K
            refine AW.ret ?_
            simp -implicitDefEqProofs only [go_sem, seval, ↓reduceIte]
            refine endK_some ?_
            rw [hP, hR]
            simp only [encPr, encPt_of]
end Go.Hs
end

section
namespace Go.Hs
open Go.Proofs
set_option maxRecDepth 10000
def ofP (l : List Nd) : Pt × Bool :=
  if l.length = 0 then (Pt.zero, true) else ((partP l.length l ((l.length : Int) - 1)).1, (partP l.length l ((l.length : Int) - 1)).2.2 && decide ((partP l.length l ((l.length : Int) - 1)).2.1 = 0))
/- hopscotch/hopscotchref22.Of -/
theorem rOf_spec (G : Nat → V) (hG : GOk G) (c1 c2 : Col) (l : Sl Nd) (h4 : l.l.length < 1000000000) (hks : ∀ n ∈ l.l, n.kids.l.length < 1000000000) :
    Spec Try.prog G 9 [encNds c1 c2 l] hNone (fun v _ => v = .tuple [encPt .any (ofP l.l).1, .bool (ofP l.l).2]) := by
  refine Spec.of_code' 0 26 [ResultVar.cell 2 31, .tmp 3] Try.func9 rfl rfl rfl rfl fun X => ?_
  refine AW.seq_k fun K hK => AW.region (by kernel_rfl) ?_
  simp -implicitDefEqProofs only [go_sem, seval, ↓reduceIte]
  intro g2
  refine hK _ ?_
  clear hK K
  refine AW.seq_k fun K1 hK1 => ?_
  refine AW.seq_k fun K hK => AW.region (by kernel_rfl) ?_
  simp -implicitDefEqProofs only [go_sem, seval, ↓reduceIte]
  refine hK _ ?_
  clear hK K
  refine AW.condS (by simp -implicitDefEqProofs only [go_sem, seval, ↓reduceIte]; rfl) (fun h2 => ?_) (fun h2 => ?_)
  · -- true
    have h0 : l.l.length = 0 := by simp at h2; simp [h2]
    refine AW.seq_k fun K hK => AW.region (by kernel_rfl) ?_
    simp -implicitDefEqProofs only [go_sem, seval, ↓reduceIte]
    refine hK _ ?_
    clear hK K
    refine AW.ret ?_
    simp -implicitDefEqProofs only [go_sem, seval, ↓reduceIte]
    refine endK_some ?_
    rw [ofP, if_pos h0]
    rfl
  · -- false
    refine AW.skip ?_
    simp -implicitDefEqProofs only [go_sem, seval, ↓reduceIte]
    refine hK1 _ ?_
    have h0 : l.l.length ≠ 0 := by simp at h2; simp [h2]
    have hw : IntKind.i64.wrap ((l.l.length : Int) - 1) = (l.l.length : Int) - 1 := w64 (by omega) (by omega)
    refine AW.seq_k fun K hK => AW.region (by kernel_rfl) ?_
    simp -implicitDefEqProofs only [go_sem, seval, ↓reduceIte, hw]
    refine CallA.pure hG (by kernel_rfl) ?_
    simp -implicitDefEqProofs only [go_sem, seval, ↓reduceIte]
    refine (rPart_spec G hG l.l.length _ _ l ((l.l.length : Int) - 1) (by omega) (by omega) (by omega) h4 hks).mono ?_
    rintro _ _ rfl
    have hof : ofP l.l = ((partP l.l.length l.l ((l.l.length : Int) - 1)).1, (partP l.l.length l.l ((l.l.length : Int) - 1)).2.2 && decide ((partP l.l.length l.l ((l.l.length : Int) - 1)).2.1 = 0)) := by
      rw [ofP, if_neg h0]
    generalize partP l.l.length l.l ((l.l.length : Int) - 1) = r at hof
    simp only [encPr]
    simp -implicitDefEqProofs only [go_sem, seval, ↓reduceIte]
    intro g4
    refine hK _ ?_
    clear hK K
    by_cases a1 : r.2.2 = true
    · refine AW.seq_k fun K hK => AW.region (by kernel_rfl) ?_
      simp -implicitDefEqProofs only [go_sem, seval, ↓reduceIte, a1]
      refine hK _ ?_
      clear hK K
      refine AW.ret ?_
      simp -implicitDefEqProofs only [go_sem, seval, ↓reduceIte]
      refine endK_some ?_
      rw [hof, a1]
      simp
      rfl
    · have a1 : r.2.2 = false := by simpa using a1
      refine AW.seq_k fun K hK => AW.region (by kernel_rfl) ?_
      simp -implicitDefEqProofs only [go_sem, seval, ↓reduceIte, a1]
      refine hK _ ?_
      clear hK K
      refine AW.ret ?_
      simp -implicitDefEqProofs only [go_sem, seval, ↓reduceIte]
      refine endK_some ?_
      rw [hof, a1]
      simp
end Go.Hs
end

section
/- Reading a row as a tree: by a stack, as the program does, and from behind, as the reference does. -/
namespace Go.Hs
abbrev VN := Int × Int × List Int
mutual
/-- What a tree's row holds, from place b on. -/
def T.vrow : T → Nat → List VN
  | .mk op pl k, b => T.vrows k b ++ [(op, pl, T.vkids k b)]
def T.vrows : List T → Nat → List VN
  | [], _ => []
  | p :: r, b => p.vrow b ++ T.vrows r (b + p.sz)
/-- The places of the roots. -/
def T.vkids : List T → Nat → List Int
  | [], _ => []
  | p :: r, b => (((b + p.sz : Nat) : Int) - 1) :: T.vkids r (b + p.sz)
def T.sz : T → Nat
  | .mk _ _ k => T.szs k + 1
def T.szs : List T → Nat
  | [] => 0
  | p :: r => p.sz + T.szs r
end
mutual
/-- A tree that a right row may be. -/
def T.good : T → Prop
  | .mk op pl k => (op ≥ 3 ∧ op ≤ 7 ∧ k = []) ∨ ((op = 1 ∨ op = 2) ∧ pl = 0 ∧ 2 ≤ k.length ∧ T.goods op k)
def T.goods (op : Int) : List T → Prop
  | [] => True
  | p :: r => p.good ∧ p.op ≠ op ∧ T.goods op r
end
theorem T.goods_iff (op : Int) : ∀ k : List T, T.goods op k ↔ ∀ t ∈ k, t.good ∧ t.op ≠ op
  | [] => by simp [T.goods]
  | p :: r => by simp [T.goods, T.goods_iff op r, and_assoc]
def Goods (k : List T) : Prop := ∀ t ∈ k, t.good
mutual
theorem T.vrow_len : ∀ (t : T) (b : Nat), (t.vrow b).length = t.sz
  | .mk op pl k, b => by rw [T.vrow, T.sz, List.length_append, T.vrows_len k b]; rfl
theorem T.vrows_len : ∀ (k : List T) (b : Nat), (T.vrows k b).length = T.szs k
  | [], _ => rfl
  | p :: r, b => by rw [T.vrows, T.szs, List.length_append, T.vrow_len p b, T.vrows_len r _]
end
theorem T.sz_pos (t : T) : 0 < t.sz := by obtain ⟨op, pl, k⟩ := t; rw [T.sz]; omega
theorem T.vkids_len : ∀ (k : List T) (b : Nat), (T.vkids k b).length = k.length
  | [], _ => rfl
  | p :: r, b => by rw [T.vkids, List.length_cons, T.vkids_len r, List.length_cons]
theorem T.szs_app : ∀ (k m : List T), T.szs (k ++ m) = T.szs k + T.szs m
  | [], m => by simp [T.szs]
  | p :: r, m => by rw [List.cons_append, T.szs, T.szs, T.szs_app r m]; omega
theorem T.vrows_app : ∀ (k m : List T) (b : Nat), T.vrows (k ++ m) b = T.vrows k b ++ T.vrows m (b + T.szs k)
  | [], m, b => by simp [T.vrows, T.szs]
  | p :: r, m, b => by rw [List.cons_append, T.vrows, T.vrows, T.vrows_app r m, T.szs, List.append_assoc, Nat.add_assoc]
theorem T.vkids_app : ∀ (k m : List T) (b : Nat), T.vkids (k ++ m) b = T.vkids k b ++ T.vkids m (b + T.szs k)
  | [], m, b => by simp [T.vkids, T.szs]
  | p :: r, m, b => by rw [List.cons_append, T.vkids, T.vkids, T.vkids_app r m, T.szs, List.cons_append, Nat.add_assoc]
theorem T.vkids_range : ∀ (k : List T) (b : Nat), ∀ x ∈ T.vkids k b, (b : Int) ≤ x ∧ x < ((b + T.szs k : Nat) : Int)
  | [], _, x, hx => by simp [T.vkids] at hx
  | p :: r, b, x, hx => by
    have h1 := p.sz_pos
    rw [T.vkids, List.mem_cons] at hx
    rw [T.szs]
    rcases hx with rfl | hx
    · omega
    · have := T.vkids_range r _ x hx
      omega
/-- The row l holds r from place b on. -/
def Seg (l : List Nd) (b : Nat) (r : List VN) : Prop := ∀ j x, r[j]? = some x → (l.map Nd.v)[b + j]? = some x
theorem Seg.app {l : List Nd} {b : Nat} {r s : List VN} : Seg l b (r ++ s) ↔ Seg l b r ∧ Seg l (b + r.length) s := by
  constructor
  · intro h
    refine ⟨fun j x hj => h j x ?_, fun j x hj => ?_⟩
    · rw [List.getElem?_append_left (by rw [List.getElem?_eq_some_iff] at hj; exact hj.1), hj]
    · rw [Nat.add_assoc]
      refine h (r.length + j) x ?_
      rw [List.getElem?_append_right (by omega), Nat.add_sub_cancel_left, hj]
  · rintro ⟨h1, h2⟩ j x hj
    rcases Nat.lt_or_ge j r.length with h | h
    · rw [List.getElem?_append_left h] at hj
      exact h1 j x hj
    · rw [List.getElem?_append_right h] at hj
      have := h2 (j - r.length) x hj
      rwa [show b + r.length + (j - r.length) = b + j by omega] at this
theorem Seg.le {l : List Nd} {b : Nat} {r : List VN} (h : Seg l b r) (hr : r ≠ []) : b + r.length ≤ l.length := by
  have h0 : 0 < r.length := by cases r with | nil => exact absurd rfl hr | cons => simp
  have h1 : r[r.length - 1]? = some r[r.length - 1] := List.getElem?_eq_getElem (by omega)
  have := h _ _ h1
  rw [List.getElem?_eq_some_iff] at this
  have := this.1
  rw [List.length_map] at this
  omega
theorem Seg.one {l : List Nd} {b : Nat} {x : VN} (h : Seg l b [x]) : ∃ n, l[b]? = some n ∧ n.v = x := by
  have := h 0 x rfl
  rw [List.getElem?_map, Nat.add_zero] at this
  cases hn : l[b]? with
  | none => rw [hn] at this; cases this
  | some n => rw [hn] at this; exact ⟨n, rfl, by simpa using this⟩
theorem Seg.nil (l : List Nd) (b : Nat) : Seg l b [] := fun j x h => by simp at h
/-- A tree's root in the row. -/
theorem Seg.root {l : List Nd} {b : Nat} {t : T} (h : Seg l b (t.vrow b)) : ∃ n, l[b + t.sz - 1]? = some n ∧ n.op = t.op ∧ n.pl = t.pl ∧ n.kids.l = T.vkids t.kids b := by
  obtain ⟨op, pl, k⟩ := t
  rw [T.vrow, Seg.app, T.vrows_len] at h
  obtain ⟨n, h1, h2⟩ := h.2.one
  simp only [Nd.v, Prod.mk.injEq] at h2
  exact ⟨n, by rw [T.sz]; exact h1, h2.1, h2.2.1, h2.2.2⟩
theorem Seg.kidOp {l : List Nd} : ∀ (k : List T) (b : Nat), Seg l b (T.vrows k b) → ∀ x ∈ T.vkids k b, ∃ t ∈ k, ∃ n, l[x.toNat]? = some n ∧ n.op = t.op
  | [], _, _, x, hx => by simp [T.vkids] at hx
  | p :: r, b, h, x, hx => by
    rw [T.vrows, Seg.app, T.vrow_len] at h
    rw [T.vkids, List.mem_cons] at hx
    rcases hx with rfl | hx
    · obtain ⟨n, h1, h2, _⟩ := h.1.root
      refine ⟨p, by simp, n, ?_, h2⟩
      rw [← h1]
      congr 1
      omega
    · obtain ⟨t, ht, n, hn⟩ := Seg.kidOp r _ h.2 x hx
      exact ⟨t, by simp [ht], n, hn⟩
/-- And each root stands where its part is. -/
theorem Seg.kidAll {l : List Nd} : ∀ (k : List T) (b : Nat), Seg l b (T.vrows k b) → ∀ t ∈ k, ∃ x ∈ T.vkids k b, ∃ n, l[x.toNat]? = some n ∧ n.op = t.op
  | [], _, _, t, ht => by cases ht
  | p :: r, b, h, t, ht => by
    rw [T.vrows, Seg.app, T.vrow_len] at h
    rw [T.vkids]
    rcases List.mem_cons.1 ht with rfl | ht
    · obtain ⟨n, h1, h2, _⟩ := h.1.root
      refine ⟨_, List.mem_cons_self, n, ?_, h2⟩
      rw [← h1]
      congr 1
      omega
    · obtain ⟨x, hx, n, hn⟩ := Seg.kidAll r _ h.2 t ht
      exact ⟨x, List.mem_cons_of_mem _ hx, n, hn⟩
theorem sameOp_false {l : List Nd} {n : Nd} {k : List T} {b : Nat} (h : Seg l b (T.vrows k b)) : (T.vkids k b).any (sameOp l n) = false ↔ ∀ t ∈ k, t.op ≠ n.op := by
  rw [List.any_eq_false]
  constructor
  · intro h1 t ht e
    obtain ⟨x, hx, m, hm, he⟩ := Seg.kidAll k b h t ht
    have := h1 x hx
    rw [sameOp, hm] at this
    simp [he, e] at this
  · intro h1 x hx
    obtain ⟨t, ht, m, hm, he⟩ := Seg.kidOp k b h x hx
    rw [sameOp, hm]
    simpa [he] using h1 t ht

/-! ### The stack -/
theorem rightGo_step {l : List Nd} {i : Nat} {n : Nd} (hn : l[i]? = some n) (opn : List Int) : rightGo l (l.drop i) i opn =
    if n.op ≥ 3 ∧ n.op ≤ 7 ∧ n.kids.l.length = 0 then rightGo l (l.drop (i + 1)) (i + 1) (opn ++ [(i : Int)])
    else if (n.op ≠ 1 ∧ n.op ≠ 2) ∨ n.pl ≠ 0 ∨ n.kids.l.length < 2 ∨ opn.length < n.kids.l.length ∨ opn.drop (opn.length - n.kids.l.length) ≠ n.kids.l then none
    else if n.kids.l.any (sameOp l n) = true then none
    else rightGo l (l.drop (i + 1)) (i + 1) (opn.take (opn.length - n.kids.l.length) ++ [(i : Int)]) := by
  rw [List.getElem?_eq_some_iff] at hn
  obtain ⟨h1, h2⟩ := hn
  rw [List.drop_eq_getElem_cons h1, h2, rightGo]
mutual
theorem rg_tree {l : List Nd} : ∀ (t : T) (b : Nat) (opn : List Int), t.good → Seg l b (t.vrow b) → rightGo l (l.drop b) b opn = rightGo l (l.drop (b + t.sz)) (b + t.sz) (opn ++ [((b + t.sz : Nat) : Int) - 1])
  | .mk op pl k, b, opn, hg, hs => by
    obtain ⟨n, hn, e1', e2', e3'⟩ := hs.root
    have e1 : n.op = op := e1'
    have e2 : n.pl = pl := e2'
    have e3 : n.kids.l = T.vkids k b := e3'
    clear e1' e2' e3'
    rw [T.vrow, Seg.app] at hs
    rw [T.sz] at hn ⊢
    rw [show b + (T.szs k + 1) - 1 = b + T.szs k by omega] at hn
    have hlast : ((b + (T.szs k + 1) : Nat) : Int) - 1 = ((b + T.szs k : Nat) : Int) := by omega
    rw [T.good] at hg
    rcases hg with ⟨h1, h2, rfl⟩ | ⟨h1, rfl, h2, h3⟩
    · have hk : n.kids.l.length = 0 := by rw [e3]; rfl
      rw [T.szs] at hn hlast ⊢
      rw [Nat.add_zero] at hn
      rw [rightGo_step hn, if_pos ⟨by omega, by omega, hk⟩, hlast]
      rfl
    · have h3' := (T.goods_iff op k).1 h3
      have hk : n.kids.l.length = k.length := by rw [e3, T.vkids_len]
      rw [rg_list k b opn (fun t ht => (h3' t ht).1) hs.1, rightGo_step hn]
      have hol : (opn ++ T.vkids k b).length - n.kids.l.length = opn.length := by rw [List.length_append, T.vkids_len, hk]; omega
      have hd : (opn ++ T.vkids k b).drop ((opn ++ T.vkids k b).length - n.kids.l.length) = n.kids.l := by rw [hol, List.drop_left, e3]
      have ht : (opn ++ T.vkids k b).take ((opn ++ T.vkids k b).length - n.kids.l.length) = opn := by rw [hol, List.take_left]
      have hany : ¬ n.kids.l.any (sameOp l n) = true := by
        rw [e3, (sameOp_false hs.1).2 (fun t ht => by rw [e1]; exact (h3' t ht).2)]
        simp
      rw [if_neg (by omega), if_neg ?_, if_neg hany, ht, hlast]
      · rfl
      · rintro (h | h | h | h | h)
        · omega
        · exact h e2
        · omega
        · rw [List.length_append, T.vkids_len, hk] at h; omega
        · exact h hd
theorem rg_list {l : List Nd} : ∀ (k : List T) (b : Nat) (opn : List Int), Goods k → Seg l b (T.vrows k b) → rightGo l (l.drop b) b opn = rightGo l (l.drop (b + T.szs k)) (b + T.szs k) (opn ++ T.vkids k b)
  | [], b, opn, _, _ => by simp [T.szs, T.vkids]
  | p :: r, b, opn, hg, hs => by
    rw [T.vrows, Seg.app, T.vrow_len] at hs
    rw [rg_tree p b opn (hg p (by simp)) hs.1, rg_list r _ _ (fun t ht => hg t (by simp [ht])) hs.2, T.szs, T.vkids, List.append_assoc, Nat.add_assoc]
    rfl
end
/-- What the stack has read. -/
theorem rg_sound {l : List Nd} : ∀ (m : Nat) (i : Nat) (Ts : List T) (res : List Int), l.length - i = m → i ≤ l.length → Goods Ts → Seg l 0 (T.vrows Ts 0) → i = T.szs Ts → rightGo l (l.drop i) i (T.vkids Ts 0) = some res →
    ∃ Us, Goods Us ∧ res = T.vkids Us 0 ∧ Seg l 0 (T.vrows Us 0) ∧ T.szs Us = l.length := by
  intro m
  induction m with
  | zero =>
    intro i Ts res hm hi hg hs hsz h
    rw [List.drop_eq_nil_of_le (by omega), rightGo] at h
    exact ⟨Ts, hg, (Option.some.inj h).symm, hs, by omega⟩
  | succ m ih =>
    intro i Ts res hm hi hg hs hsz h
    have hlt : i < l.length := by omega
    have hn := List.getElem?_eq_getElem hlt
    generalize l[i] = n at hn
    rw [rightGo_step hn] at h
    have next : ∀ Us : List T, Goods Us → Seg l 0 (T.vrows Us 0) → i + 1 = T.szs Us → rightGo l (l.drop (i + 1)) (i + 1) (T.vkids Us 0) = some res → ∃ Us, Goods Us ∧ res = T.vkids Us 0 ∧ Seg l 0 (T.vrows Us 0) ∧ T.szs Us = l.length :=
      fun Us h1 h2 h3 h4 => ih (i + 1) Us res (by omega) (by omega) h1 h2 h3 h4
    have hvn : ∀ (op pl : Int) (ks : List Int), n.op = op → n.pl = pl → n.kids.l = ks → Seg l i [(op, pl, ks)] := by
      intro op pl ks h1 h2 h3 j x hj
      cases j with
      | zero =>
        rw [List.getElem?_map, Nat.add_zero, hn]
        simp at hj
        simp [Nd.v, h1, h2, h3, hj]
      | succ j => simp at hj
    split at h
    · rename_i h1
      have hk : n.kids.l = [] := List.length_eq_zero_iff.1 h1.2.2
      refine next (Ts ++ [.mk n.op n.pl []]) ?_ ?_ ?_ ?_
      · intro t ht
        rcases List.mem_append.1 ht with ht | ht
        · exact hg t ht
        · simp at ht
          subst ht
          exact .inl ⟨h1.1, h1.2.1, rfl⟩
      · rw [T.vrows_app, Seg.app, T.vrows_len, ← hsz, Nat.zero_add]
        refine ⟨hs, ?_⟩
        simp only [T.vrows, T.vrow, T.vkids, List.nil_append, List.append_nil]
        exact hvn _ _ _ rfl rfl hk
      · rw [T.szs_app, ← hsz]; rfl
      · rw [T.vkids_app, ← hsz, Nat.zero_add]
        simp only [T.vkids, T.sz, T.szs]
        rw [show ((i + (0 + 1) : Nat) : Int) - 1 = (i : Int) by omega]
        exact h
    · split at h
      · cases h
      · split at h
        · cases h
        · rename_i h1 h2 h3
          have hd : (T.vkids Ts 0).drop ((T.vkids Ts 0).length - n.kids.l.length) = n.kids.l := Classical.byContradiction fun e => h2 (.inr (.inr (.inr (.inr e))))
          have hkl : n.kids.l.length ≤ Ts.length := by rw [← T.vkids_len Ts 0]; omega
          rw [T.vkids_len] at hd h
          have hsplit : Ts = Ts.take (Ts.length - n.kids.l.length) ++ Ts.drop (Ts.length - n.kids.l.length) := (List.take_append_drop _ _).symm
          have hAl : (Ts.take (Ts.length - n.kids.l.length)).length = Ts.length - n.kids.l.length := by rw [List.length_take]; omega
          have hBl : (Ts.drop (Ts.length - n.kids.l.length)).length = n.kids.l.length := by rw [List.length_drop]; omega
          generalize Ts.take (Ts.length - n.kids.l.length) = A at hsplit hAl
          generalize Ts.drop (Ts.length - n.kids.l.length) = B at hsplit hBl
          subst hsplit
          rw [T.vkids_app, Nat.zero_add] at hd h
          have hA2 : (T.vkids A 0).length = (A ++ B).length - n.kids.l.length := by rw [T.vkids_len, hAl]
          rw [← hA2, List.drop_left] at hd
          rw [← hA2, List.take_left] at h
          rw [T.vrows_app, Seg.app, T.vrows_len, Nat.zero_add] at hs
          rw [T.szs_app] at hsz
          have hops : ∀ t ∈ B, t.op ≠ n.op := by
            refine (sameOp_false hs.2).1 ?_
            rw [hd]
            simpa using h3
          refine next (A ++ [.mk n.op n.pl B]) ?_ ?_ ?_ ?_
          · intro t ht
            rcases List.mem_append.1 ht with ht | ht
            · exact hg t (by simp [ht])
            · simp at ht
              subst ht
              refine .inr ⟨by omega, by omega, by omega, (T.goods_iff _ _).2 fun t ht => ⟨hg t (by simp [ht]), hops t ht⟩⟩
          · rw [T.vrows_app, Seg.app, T.vrows_len, Nat.zero_add]
            refine ⟨hs.1, ?_⟩
            simp only [T.vrows, T.vrow, List.append_nil]
            rw [Seg.app, T.vrows_len, ← hsz]
            exact ⟨hs.2, hvn _ _ _ rfl rfl hd.symm⟩
          · rw [T.szs_app]
            simp only [T.szs, T.sz]
            omega
          · rw [T.vkids_app, Nat.zero_add]
            simp only [T.vkids, T.sz]
            rw [show ((T.szs A + (T.szs B + 1) : Nat) : Int) - 1 = (i : Int) by omega]
            exact h
/-- **A row is right just if it is a tree's, or nothing.** -/
theorem rightP_iff (l : List Nd) : rightP l = true ↔ l = [] ∨ ∃ t : T, t.good ∧ l.map Nd.v = t.vrow 0 := by
  have seg_eq : ∀ r : List VN, Seg l 0 r → r.length = l.length → l.map Nd.v = r := by
    intro r hs hl
    apply List.ext_getElem?
    intro j
    rcases Nat.lt_or_ge j r.length with hj | hj
    · have := hs j _ (List.getElem?_eq_getElem hj)
      rw [Nat.zero_add] at this
      rw [this, List.getElem?_eq_getElem hj]
    · rw [List.getElem?_eq_none (by rw [List.length_map]; omega), List.getElem?_eq_none hj]
  constructor
  · intro h
    unfold rightP at h
    split at h
    · rename_i res hr
      obtain ⟨Us, hg, rfl, hs, hsz⟩ := rg_sound (l := l) l.length 0 [] res (by omega) (by omega) (fun t ht => by cases ht) (Seg.nil _ _) rfl hr
      rw [T.vkids_len] at h
      match Us, h, hg, hs, hsz with
      | [], _, _, _, hsz => exact .inl (List.length_eq_zero_iff.1 (by rw [T.szs] at hsz; omega))
      | [t], _, hg, hs, hsz =>
        refine .inr ⟨t, hg t (by simp), ?_⟩
        simp only [T.vrows, List.append_nil] at hs
        exact seg_eq _ hs (by rw [T.vrow_len, ← hsz]; rfl)
      | _ :: _ :: _, h, _, _, _ => simp at h; omega
    · cases h
  · rintro (rfl | ⟨t, hg, he⟩)
    · rfl
    · have hs : Seg l 0 (t.vrow 0) := by
        intro j x hj
        rw [he, Nat.zero_add, hj]
      have hl : l.length = t.sz := by rw [← List.length_map Nd.v, he, T.vrow_len]
      have h0 : l.drop 0 = l := rfl
      unfold rightP
      have hg2 : rightGo l l 0 [] = some [((t.sz : Nat) : Int) - 1] := by
        have := rg_tree t 0 [] hg hs
        rw [h0, Nat.zero_add, List.drop_eq_nil_of_le (by omega), rightGo] at this
        exact this
      rw [hg2]
      rfl
end Go.Hs
end

section
/- The reference's reading from behind. -/
namespace Go.Hs
theorem partP_eq {f : Nat} {l : List Nd} {i : Nat} {n : Nd} (hn : l[i]? = some n) : partP (f + 1) l i =
    if n.op ≥ 3 ∧ n.op ≤ 7 ∧ n.kids.l.length = 0 then (.mk n.op n.pl none [], (i : Int), true)
    else if (n.op ≠ 1 ∧ n.op ≠ 2) ∨ n.kids.l.length < 2 ∨ n.pl ≠ 0 then (Pt.zero, 0, false)
    else match partKs (partP f l) n.op n.kids.l.reverse i [] with
      | some (kids, first) => (Pt.of n.op 0 (grownS kids), first, true)
      | none => (Pt.zero, 0, false) := by
  rw [partP, if_neg (by omega), Int.toNat_natCast, hn]
  try rfl
theorem Pt.leaf_v (op pl : Int) : (Pt.mk op pl none []).v = .mk op pl [] := by rw [Pt.v_K]; rfl
mutual
theorem pc_tree {l : List Nd} : ∀ (t : T) (b f : Nat), t.good → Seg l b (t.vrow b) → b + t.sz ≤ f → ∃ p, partP f l (((b + t.sz : Nat) : Int) - 1) = (p, (b : Int), true) ∧ p.v = t
  | .mk op pl k, b, f, hg, hs, hf => by
    obtain ⟨n, hn, e1', e2', e3'⟩ := hs.root
    have e1 : n.op = op := e1'
    have e2 : n.pl = pl := e2'
    have e3 : n.kids.l = T.vkids k b := e3'
    clear e1' e2' e3'
    rw [T.vrow, Seg.app] at hs
    rw [T.sz] at hn hf ⊢
    rw [show b + (T.szs k + 1) - 1 = b + T.szs k by omega] at hn
    have hlast : ((b + (T.szs k + 1) : Nat) : Int) - 1 = ((b + T.szs k : Nat) : Int) := by omega
    rw [hlast]
    obtain ⟨f, rfl⟩ : ∃ f', f = f' + 1 := ⟨f - 1, by omega⟩
    rw [partP_eq hn]
    rw [T.good] at hg
    rcases hg with ⟨h1, h2, rfl⟩ | ⟨h1, rfl, h2, h3⟩
    · have hk : n.kids.l.length = 0 := by rw [e3]; rfl
      rw [if_pos ⟨by omega, by omega, hk⟩, T.szs, Nat.add_zero]
      exact ⟨_, rfl, by rw [Pt.leaf_v, e1, e2]⟩
    · have h3' := (T.goods_iff op k).1 h3
      have hk : n.kids.l.length = k.length := by rw [e3, T.vkids_len]
      rw [if_neg (by omega), if_neg (by omega)]
      obtain ⟨ps, h4, h5⟩ := pc_list k b f n.op [] [] (fun t ht => (h3' t ht).1) (fun t ht => by rw [e1]; exact (h3' t ht).2) hs.1 (by omega)
      rw [List.append_nil, List.append_nil, partKs] at h4
      rw [e3, h4]
      exact ⟨_, rfl, by rw [Pt.of_v, grownS_l, h5, e1]⟩
theorem pc_list {l : List Nd} : ∀ (k : List T) (b f : Nat) (op : Int) (rest : List Int) (acc : List Pt), Goods k → (∀ t ∈ k, t.op ≠ op) → Seg l b (T.vrows k b) → b + T.szs k ≤ f →
    ∃ ps : List Pt, partKs (partP f l) op ((T.vkids k b).reverse ++ rest) ((b + T.szs k : Nat) : Int) acc = partKs (partP f l) op rest b (ps ++ acc) ∧ ps.map Pt.v = k
  | [], b, f, op, rest, acc, _, _, _, _ => ⟨[], by simp [T.vkids, T.szs], rfl⟩
  | p :: r, b, f, op, rest, acc, hg, ho, hs, hf => by
    rw [T.vrows, Seg.app, T.vrow_len] at hs
    rw [T.szs] at hf ⊢
    obtain ⟨ps, h1, h2⟩ := pc_list r (b + p.sz) f op ((((b + p.sz : Nat) : Int) - 1) :: rest) acc (fun t ht => hg t (by simp [ht])) (fun t ht => ho t (by simp [ht])) hs.2 (by omega)
    obtain ⟨q, h3, h4⟩ := pc_tree p b f (hg p (by simp)) hs.1 (by omega)
    refine ⟨q :: ps, ?_, by rw [List.map_cons, h4, h2]⟩
    have hq : q.op ≠ op := by rw [← Pt.op_v, h4]; exact ho p (by simp)
    rw [T.vkids, List.reverse_cons, List.append_assoc, List.singleton_append, ← Nat.add_assoc, h1, partKs, if_neg (by simp), h3, if_neg (by simp [hq])]
    rfl
end
theorem ps_list {l : List Nd} {f : Nat} (hrec : ∀ (i : Int) (p : Pt) (first : Int), partP f l i = (p, first, true) → ∃ b : Nat, first = b ∧ p.v.good ∧ i = ((b + p.v.sz : Nat) : Int) - 1 ∧ Seg l b (p.v.vrow b)) :
    ∀ (ks : List Int) (op : Int) (e : Nat) (acc kids : List Pt) (first : Int), partKs (partP f l) op ks e acc = some (kids, first) →
      ∃ (ps : List Pt) (b : Nat), kids = ps ++ acc ∧ first = b ∧ Goods (ps.map Pt.v) ∧ (∀ t ∈ ps.map Pt.v, t.op ≠ op) ∧ e = b + T.szs (ps.map Pt.v) ∧ ks = (T.vkids (ps.map Pt.v) b).reverse ∧ Seg l b (T.vrows (ps.map Pt.v) b)
  | [], op, e, acc, kids, first, h => by
    simp only [partKs, Option.some.injEq, Prod.mk.injEq] at h
    obtain ⟨rfl, rfl⟩ := h
    refine ⟨[], e, rfl, rfl, ?_, ?_, rfl, rfl, Seg.nil _ _⟩
    · intro t ht; simp at ht
    · intro t ht; simp at ht
  | k :: r, op, e, acc, kids, first, h => by
    rw [partKs] at h
    split at h
    · cases h
    · rename_i hk
      split at h
      · cases h
      · rename_i hok
        generalize hr : partP f l (e - 1) = res at h hok
        obtain ⟨p, fr, ok⟩ := res
        have hok1 : ok = true := by cases ok with | true => rfl | false => exact absurd (.inl rfl) hok
        subst hok1
        obtain ⟨b, rfl, hg, he, hs⟩ := hrec _ _ _ hr
        have hop : p.op ≠ op := fun e => hok (.inr e)
        obtain ⟨ps, b0, rfl, rfl, h1, h2, h3, h4, h5⟩ := ps_list hrec r op b (p :: acc) kids first h
        have hsz := p.v.sz_pos
        refine ⟨ps ++ [p], b0, by simp, rfl, ?_, ?_, ?_, ?_, ?_⟩
        · intro t ht
          rw [List.map_append] at ht
          rcases List.mem_append.1 ht with ht | ht
          · exact h1 t ht
          · simp at ht; subst ht; exact hg
        · intro t ht
          rw [List.map_append] at ht
          rcases List.mem_append.1 ht with ht | ht
          · exact h2 t ht
          · simp at ht; subst ht; rw [Pt.op_v]; exact hop
        · rw [List.map_append, T.szs_app]
          simp only [List.map_cons, List.map_nil, T.szs]
          omega
        · rw [List.map_append, T.vkids_app, List.reverse_append, ← h4]
          simp only [List.map_cons, List.map_nil, T.vkids, List.reverse_cons, List.reverse_nil, List.nil_append, List.singleton_append, List.cons.injEq, and_true]
          have : k = (e : Int) - 1 := Classical.byContradiction hk
          omega
        · rw [List.map_append, T.vrows_app, Seg.app, T.vrows_len, ← h3]
          refine ⟨h5, ?_⟩
          simp only [List.map_cons, List.map_nil, T.vrows, List.append_nil]
          exact hs
theorem ps_tree {l : List Nd} : ∀ (f : Nat) (i : Int) (p : Pt) (first : Int), partP f l i = (p, first, true) → ∃ b : Nat, first = b ∧ p.v.good ∧ i = ((b + p.v.sz : Nat) : Int) - 1 ∧ Seg l b (p.v.vrow b)
  | 0, i, p, first, h => by simp [partP] at h
  | f + 1, i, p, first, h => by
    by_cases hi : i < 0
    · rw [partP, if_pos hi] at h; simp at h
    · obtain ⟨j, rfl⟩ : ∃ j : Nat, i = j := ⟨i.toNat, by omega⟩
      cases hn : l[j]? with
      | none => rw [partP, if_neg hi, Int.toNat_natCast, hn] at h; simp at h
      | some n =>
        rw [partP_eq hn] at h
        have hvn : ∀ (ks : List Int), n.kids.l = ks → Seg l j [(n.op, n.pl, ks)] := by
          intro ks h3 q x hq
          cases q with
          | zero =>
            rw [List.getElem?_map, Nat.add_zero, hn]
            simp at hq
            simp [Nd.v, h3, hq]
          | succ q => simp at hq
        split at h
        · rename_i h1
          simp only [Prod.mk.injEq, and_true] at h
          obtain ⟨rfl, rfl⟩ := h
          refine ⟨j, rfl, ?_, ?_, ?_⟩
          · rw [Pt.leaf_v]; exact .inl ⟨h1.1, h1.2.1, rfl⟩
          · rw [Pt.leaf_v]; simp only [T.sz, T.szs]; omega
          · rw [Pt.leaf_v]
            simp only [T.vrow, T.vrows, List.nil_append, T.vkids]
            exact hvn [] (List.length_eq_zero_iff.1 h1.2.2)
        · split at h
          · simp at h
          · rename_i h1 h2
            split at h
            · rename_i kids fr hk
              simp only [Prod.mk.injEq, and_true] at h
              obtain ⟨rfl, rfl⟩ := h
              obtain ⟨ps, b, hps, rfl, g1, g2, g3, g4, g5⟩ := ps_list (ps_tree f) _ _ _ _ _ _ hk
              rw [List.append_nil] at hps
              subst hps
              have g4' : n.kids.l = T.vkids (kids.map Pt.v) b := by rw [← List.reverse_reverse n.kids.l, g4, List.reverse_reverse]
              have hkl : n.kids.l.length = (kids.map Pt.v).length := by rw [g4', T.vkids_len]
              refine ⟨b, rfl, ?_, ?_, ?_⟩
              · rw [Pt.of_v, grownS_l]
                exact .inr ⟨by omega, rfl, by omega, (T.goods_iff _ _).2 fun t ht => ⟨g1 t ht, g2 t ht⟩⟩
              · rw [Pt.of_v, grownS_l, T.sz]; omega
              · rw [Pt.of_v, grownS_l, T.vrow, Seg.app, T.vrows_len, ← g3]
                refine ⟨g5, ?_⟩
                have := hvn _ g4'
                rwa [show n.pl = 0 by omega] at this
            · simp at h
/-- **The reference reads a row just as the program's stack.** -/
theorem ofP_right (l : List Nd) : (ofP l).2 = rightP l := by
  by_cases h0 : l.length = 0
  · have : l = [] := List.length_eq_zero_iff.1 h0
    subst this
    rfl
  · rw [Bool.eq_iff_iff, rightP_iff, ofP, if_neg h0]
    simp only [Bool.and_eq_true, decide_eq_true_eq]
    constructor
    · rintro ⟨h1, h2⟩
      generalize hr : partP l.length l ((l.length : Int) - 1) = res at h1 h2
      obtain ⟨p, fr, ok⟩ := res
      simp only at h1 h2
      subst h1
      subst h2
      obtain ⟨b, hb, hg, he, hs⟩ := ps_tree _ _ _ _ hr
      have hb : b = 0 := by omega
      subst hb
      refine .inr ⟨p.v, hg, ?_⟩
      apply List.ext_getElem?
      intro j
      rcases Nat.lt_or_ge j (p.v.vrow 0).length with hj | hj
      · have := hs j _ (List.getElem?_eq_getElem hj)
        rw [Nat.zero_add] at this
        rw [this, List.getElem?_eq_getElem hj]
      · rw [T.vrow_len] at hj
        rw [List.getElem?_eq_none (by rw [List.length_map]; omega), List.getElem?_eq_none (by rw [T.vrow_len]; omega)]
    · rintro (rfl | ⟨t, hg, he⟩)
      · exact absurd rfl h0
      · have hs : Seg l 0 (t.vrow 0) := by intro j x hj; rw [he, Nat.zero_add, hj]
        have hl : l.length = t.sz := by rw [← List.length_map Nd.v, he, T.vrow_len]
        obtain ⟨p, h1, _⟩ := pc_tree t 0 l.length hg hs (by omega)
        rw [Nat.zero_add, ← hl] at h1
        rw [h1]
        exact ⟨rfl, rfl⟩
/-- The tree that it reads. -/
theorem ofP_tree {l : List Nd} {t : T} (hg : t.good) (he : l.map Nd.v = t.vrow 0) : (ofP l).1.v = t := by
  have hs : Seg l 0 (t.vrow 0) := by intro j x hj; rw [he, Nat.zero_add, hj]
  have hl : l.length = t.sz := by rw [← List.length_map Nd.v, he, T.vrow_len]
  obtain ⟨p, h1, h2⟩ := pc_tree t 0 l.length hg hs (by omega)
  rw [Nat.zero_add, ← hl] at h1
  rw [ofP, if_neg (by have := t.sz_pos; omega), h1]
  exact h2
end Go.Hs
end

section
namespace Go.Hs
open Go.Proofs
set_option maxRecDepth 10000
/- (hopscotch/steps.Tree).root -/
theorem root_spec (G : Nat → V) (hG : GOk G) (c1 c2 : Col) (t : Sl Nd) (n : Nd) (ht : t.l.length < 1000000000) (hn : t.l[t.l.length - 1]? = some n) :
    Spec Try.prog G 41 [encTree c1 c2 t] hNone (fun v _ => v = encNd c2 n) := by
  have h0 : 0 < t.l.length := by
    rcases Nat.eq_zero_or_pos t.l.length with h | h
    · rw [List.getElem?_eq_none (by omega)] at hn; cases hn
    · exact h
  refine Spec.of_code' 0 11 [ResultVar.cell 2 43] Try.func41 rfl rfl rfl rfl fun X => ?_
  refine AW.seq_k fun K hK => AW.region (by kernel_rfl) ?_
  simp -implicitDefEqProofs only [go_sem, seval, ↓reduceIte]
  intro g1 g2
  refine hK _ ?_
  clear hK K
  have hw : IntKind.i64.wrap ((t.l.length : Int) - 1) = ((t.l.length - 1 : Nat) : Int) := by rw [w64 (by omega) (by omega)]; omega
  refine AW.seq_k fun K hK => AW.region (by kernel_rfl) ?_
  simp -implicitDefEqProofs only [go_sem, seval, ↓reduceIte, hw, hn]
  refine hK _ ?_
  clear hK K
  refine AW.ret ?_
  simp -implicitDefEqProofs only [go_sem, seval, ↓reduceIte]
  refine endK_some ?_
  rfl
end Go.Hs
end

section
namespace Go.Hs
open Go.Proofs
set_option maxRecDepth 10000
def movedN (b : Nat) (n : Nd) : Nd := ⟨n.op, n.pl, .mk false (n.kids.l.map fun x => x + (b : Int))⟩
def ownK (op : Int) (t : List Nd) : List Int := match t[t.length - 1]? with | some n => if n.op = op then n.kids.l else [((t.length - 1 : Nat) : Int)] | none => []
def bodyN (op : Int) (t : List Nd) : List Nd := match t[t.length - 1]? with | some n => if n.op = op then t.take (t.length - 1) else t | none => []
def putRows (op : Int) : List (List Nd) → Nat → List Nd
  | [], _ => []
  | t :: r, b => (bodyN op t).map (movedN b) ++ putRows op r (b + (bodyN op t).length)
def putKd (op : Int) : List (List Nd) → Nat → List Int
  | [], _ => []
  | t :: r, b => (ownK op t).map (fun x => x + (b : Int)) ++ putKd op r (b + (bodyN op t).length)
def putS (op : Int) (L : List (List Nd)) : List Nd :=
  putRows op L 0 ++ if (putKd op L 0).length > 1 then [⟨op, 0, grownS (putKd op L 0)⟩] else []
def kOk (n : Nd) : Prop := n.kids.l.length < 1000000000 ∧ ∀ x ∈ n.kids.l, -1000000000 < x ∧ x < 1000000000
structure PutOk (op : Int) (l : Sl (Sl Nd)) : Prop where
  len : l.l.length < 1000000000
  tr : ∀ t ∈ l.l, t.l.length < 1000000000
  kd : ∀ t ∈ l.l, ∀ n ∈ t.l, kOk n
  out : (putRows op (l.l.map Sl.l) 0).length < 1000000000
  kids : (putKd op (l.l.map Sl.l) 0).length < 1000000000
theorem bodyN_mem {op : Int} {t : List Nd} {n : Nd} (h : n ∈ bodyN op t) : n ∈ t := by
  unfold bodyN at h
  split at h
  · split at h
    · exact List.mem_of_mem_take h
    · exact h
  · cases h
/- hopscotch/steps.put -/
theorem put_spec (G : Nat → V) (hG : GOk G) (c0 c1 c2 : Col) (op : Int) (l : Sl (Sl Nd)) (hok : PutOk op l) :
    Spec Try.prog G 31 [.int .u8 op, encSl c0 1 (encTree c1 c2) l] hNone (fun v _ => v = encTree .new .new (grownS (putS op (l.l.map Sl.l)))) := by
  have hlen := hok.len
  have hLo := hok.out
  have hLk := hok.kids
  refine Spec.of_code' 0 115 [ResultVar.cell 4 24] Try.func31 rfl rfl rfl rfl fun X => ?_
  refine AW.seq_k fun K hK => AW.region (by kernel_rfl) ?_
  simp -implicitDefEqProofs only [go_sem, seval, ↓reduceIte]
  intro g4
  refine hK _ ?_
  clear hK K
  refine AW.seq_k fun K hK => AW.region (by kernel_rfl) ?_
  simp -implicitDefEqProofs only [go_sem, seval, ↓reduceIte]
  intro g5
  refine hK _ ?_
  clear hK K
  refine AW.seq_k fun K hK => AW.region (by kernel_rfl) ?_
  simp -implicitDefEqProofs only [go_sem, seval, ↓reduceIte]
  refine hK _ ?_
  clear hK K
  refine AW.seq_k fun K1 hK1 => ?_
  refine AW.seq_k fun K hK => AW.region (by kernel_rfl) ?_
  simp -implicitDefEqProofs only [go_sem, seval, ↓reduceIte]
  refine hK _ ?_
  clear hK K
  refine AW.block ?_
  refine AW.for l.l.length (fun k (x : (Nat × List Nd) × (Nat × List Int)) => st [(0, .int .u8 op), (4, .ptr 4 g4 0), (5, .ptr 5 g5 0), (6, grown 100 x.2.1 1 x.2.2), (18, encSl c0 1 (encTree c1 c2) l), (19, .int .i64 l.l.length), (20, .int .i64 k)]
      [(4, .cells .new g4 0 [.nils]), (5, .cells .new g5 0 [grown 86 x.1.1 3 x.1.2]), (86, grownO x.1.1 (encNd .new) x.1.2), (100, grownO x.2.1 (V.int .i64) x.2.2)])
    (fun k x => x.1.2 ++ putRows op ((l.l.drop k).map Sl.l) x.1.2.length = putRows op (l.l.map Sl.l) 0 ∧ x.2.2 ++ putKd op ((l.l.drop k).map Sl.l) x.1.2.length = putKd op (l.l.map Sl.l) 0) 0 ((0, []), (0, [])) (Nat.zero_le _) (by simp)
    (Weak.st (by simp -implicitDefEqProofs only [go_sem, seval, ↓reduceIte] <;> simp [grown]) (by simp -implicitDefEqProofs only [go_sem, seval, ↓reduceIte]; exact ⟨rfl, rfl, rfl⟩)) ?_
  rintro k ⟨⟨go, out⟩, ⟨gk, kids⟩⟩ hk ⟨hR1, hR2⟩ L2 hL2
  refine AW.seq_k fun K hK => AW.region (by kernel_rfl) ?_
  simp -implicitDefEqProofs only [go_sem, seval, ↓reduceIte]
  refine hK _ ?_
  clear hK K
  refine AW.seq_k fun K3 hK3 => ?_
  refine AW.condS (by simp -implicitDefEqProofs only [go_sem, seval, ↓reduceIte]; rfl) (fun h4 => ?_) (fun h4 => ?_)
  · -- true
    refine AW.skip ?_
    simp -implicitDefEqProofs only [go_sem, seval, ↓reduceIte]
    refine hK3 _ ?_
    have hk1 : k < l.l.length := by simpa using h4
    have hgi := List.getElem?_eq_getElem hk1
    have htm := List.getElem_mem hk1
    rw [List.drop_eq_getElem_cons hk1, List.map_cons, putRows] at hR1
    rw [List.drop_eq_getElem_cons hk1, List.map_cons, putKd] at hR2
    generalize l.l[k] = t at htm hgi hR1 hR2
    have htl := hok.tr t htm
    have htk := hok.kd t htm
    refine AW.seq_k fun K5 hK5 => ?_
    refine AW.block ?_
    refine AW.seq_k fun K hK => AW.region (by kernel_rfl) ?_
    simp -implicitDefEqProofs only [go_sem, seval, ↓reduceIte, hgi]
    intro g8
    refine hK _ ?_
    clear hK K
    refine AW.seq_k fun K6 hK6 => ?_
    refine AW.seq_k fun K hK => AW.region (by kernel_rfl) ?_
    simp -implicitDefEqProofs only [go_sem, seval, ↓reduceIte]
    refine hK _ ?_
    clear hK K
    refine AW.condS (by simp -implicitDefEqProofs only [go_sem, seval, ↓reduceIte]; rfl) (fun h7 => ?_) (fun h7 => ?_)
    · -- true
      have h0 : t.l = [] := by
        have : (t.l.length : Int) = 0 := by simpa using h7
        exact List.length_eq_zero_iff.1 (by omega)
      refine AW.exit ?_
      simp -implicitDefEqProofs only [go_sem, seval, ↓reduceIte]
      refine hK5 _ ?_
      refine AW.region (by kernel_rfl) ?_
      simp -implicitDefEqProofs only [go_sem, seval, ↓reduceIte]
      rw [h0] at hR1 hR2
      refine hL2 _ ⟨hk1, ((go, out), (gk, kids)), ⟨by simpa [bodyN] using hR1, by simpa [bodyN, ownK] using hR2⟩, Weak.st (by simp -implicitDefEqProofs only [go_sem, seval, ↓reduceIte]; exact congrArg _ (w64 (by omega) (by omega))) (by simp -implicitDefEqProofs only [go_sem, seval, ↓reduceIte])⟩
    · -- false
      have h0 : 0 < t.l.length := by
        have : ¬ (t.l.length : Int) = 0 := by simpa using h7
        omega
      refine AW.skip ?_
      simp -implicitDefEqProofs only [go_sem, seval, ↓reduceIte]
      refine hK6 _ ?_
      have hlt : t.l.length - 1 < t.l.length := by omega
      have hgl := List.getElem?_eq_getElem hlt
      have hlm := List.getElem_mem hlt
      generalize t.l[t.l.length - 1] = last at hgl hlm
      have hw : IntKind.i64.wrap ((t.l.length : Int) - 1) = ((t.l.length - 1 : Nat) : Int) := by rw [w64 (by omega) (by omega)]; omega
      have hown : ownK op t.l = if last.op = op then last.kids.l else [((t.l.length - 1 : Nat) : Int)] := by rw [ownK, hgl]
      have hbody : bodyN op t.l = if last.op = op then t.l.take (t.l.length - 1) else t.l := by rw [bodyN, hgl]
      refine AW.seq_k fun K hK => AW.regionT ⟨fun _ => .top, fun _ => .pure⟩ (by kernel_rfl) hG (by kernel_rfl) (by kernel_rfl) ?_
      simp -implicitDefEqProofs only [go_sem, seval, ↓reduceIte, hw]
      intro g35
      refine hK _ ?_
      clear hK K
      refine AW.seqJ (fun (x : Col × Sl Int × Sl Nd) => st [(0, .int .u8 op), (4, .ptr 4 g4 0), (5, .ptr 5 g5 0), (6, grown 100 gk 1 kids), (8, .ptr 8 g8 0), (9, .int .i64 out.length), (10, encSl x.1 1 (V.int .i64) x.2.1), (18, encSl c0 1 (encTree c1 c2) l), (19, .int .i64 l.l.length), (20, .int .i64 k)]
          [(4, .cells .new g4 0 [.nils]), (5, .cells .new g5 0 [grown 86 go 3 out]), (86, grownO go (encNd .new) out), (100, grownO gk (V.int .i64) kids), (8, .cells .new g8 0 [encSl c1 3 (encNd c2) x.2.2])])
        (fun x => x.2.1.l = ownK op t.l ∧ x.2.2.l = bodyN op t.l) (fun K8 hK8 => ?_) ?_
      · refine AW.seq_k fun K hK => AW.region (by kernel_rfl) ?_
        simp -implicitDefEqProofs only [go_sem, seval, ↓reduceIte]
        refine CallA.pure hG (by kernel_rfl) ?_
        simp -implicitDefEqProofs only [go_sem, seval, ↓reduceIte]
        refine (root_spec G hG _ _ t last htl hgl).mono ?_
        rintro _ _ rfl
        simp -implicitDefEqProofs only [go_sem, seval, ↓reduceIte]
        refine hK _ ?_
        clear hK K
        refine AW.condS (by simp -implicitDefEqProofs only [go_sem, seval, ↓reduceIte]; rfl) (fun h9 => ?_) (fun h9 => ?_)
        · -- true
          have h9' : last.op = op := by simpa using h9
          rw [if_pos h9'] at hown hbody
          refine AW.seq_k fun K hK => AW.region (by kernel_rfl) ?_
          simp -implicitDefEqProofs only [go_sem, seval, ↓reduceIte]
          refine CallA.pure hG (by kernel_rfl) ?_
          simp -implicitDefEqProofs only [go_sem, seval, ↓reduceIte]
          refine (root_spec G hG _ _ t last htl hgl).mono ?_
          rintro _ _ rfl
          simp -implicitDefEqProofs only [go_sem, seval, ↓reduceIte]
          refine hK _ ?_
          clear hK K
          refine AW.region (by kernel_rfl) ?_
          simp -implicitDefEqProofs only [go_sem, seval, ↓reduceIte, hw, Nat.zero_le, Nat.sub_le, and_self]
          refine hK8 _ (c2.ent.bk, last.kids, t.sub 0 (t.l.length - 1)) ⟨hown.symm, by rw [Sl.sub_l, hbody]; simp⟩ (Weak.st (by simp -implicitDefEqProofs only [go_sem, seval, ↓reduceIte]) (by simp -implicitDefEqProofs only [go_sem, seval, ↓reduceIte]))
        · -- false
          have h9' : ¬ last.op = op := by simpa using h9
          rw [if_neg h9'] at hown hbody
          refine AW.skip ?_
          simp -implicitDefEqProofs only [go_sem, seval, ↓reduceIte]
          refine hK8 _ (.new, .mk false [((t.l.length - 1 : Nat) : Int)], t) ⟨hown.symm, hbody.symm⟩ (Weak.stF (fun o => o == 35) ?_ ?_)
          · simp -implicitDefEqProofs only [go_sem, seval, ↓reduceIte]
            exact ⟨Fz.same _, Fz.same _, Fz.same _, Fz.same _, Fz.same _, Fz.same _, Fz.sl (l := [((t.l.length - 1 : Nat) : Int)]) rfl rfl (fun _ => rfl), Fz.same _, Fz.same _, Fz.same _⟩
          · simp only [allFzO_cons, allFzO_nil, and_true]
            exact ⟨FzO.keep rfl rfl, FzO.keep rfl rfl, FzO.keep rfl rfl, FzO.keep rfl rfl, FzO.keep rfl rfl⟩
      · rintro ⟨co, own, body⟩ ⟨hown2, hbody2⟩
        have hown2 : own.l = ownK op t.l := hown2
        have hbody2 : body.l = bodyN op t.l := hbody2
        rw [← hown2] at hR2
        rw [← hbody2] at hR1 hR2
        have hb1 : out.length + body.l.length < 1000000000 := by
          have := congrArg List.length hR1
          simp at this
          omega
        have hb2 : kids.length + own.l.length < 1000000000 := by
          have := congrArg List.length hR2
          simp at this
          omega
        have hbm : ∀ n ∈ body.l, kOk n := fun n hn => htk n (bodyN_mem (hbody2 ▸ hn))
        have hownv : ∀ y ∈ own.l, -1000000000 < y ∧ y < 1000000000 := by
          intro y hy
          rw [hown2, hown] at hy
          split at hy
          · exact (htk last hlm).2 y hy
          · simp at hy; omega
        refine AW.seqJ (fun (x : Nat × List Nd) => st [(0, .int .u8 op), (4, .ptr 4 g4 0), (5, .ptr 5 g5 0), (6, grown 100 gk 1 kids), (9, .int .i64 out.length), (10, encSl co 1 (V.int .i64) own), (18, encSl c0 1 (encTree c1 c2) l), (19, .int .i64 l.l.length), (20, .int .i64 k)]
            [(4, .cells .new g4 0 [.nils]), (5, .cells .new g5 0 [grown 86 x.1 3 x.2]), (86, grownO x.1 (encNd .new) x.2), (100, grownO gk (V.int .i64) kids)])
          (fun x => x.2 = out ++ body.l.map (movedN out.length)) (fun K10 hK10 => ?_) ?_
        · refine AW.seq_k fun K hK => AW.region (by kernel_rfl) ?_
          simp -implicitDefEqProofs only [go_sem, seval, ↓reduceIte]
          refine hK _ ?_
          clear hK K
          refine AW.block ?_
          refine AW.for body.l.length (fun j (x : Nat × List Nd) => st [(0, .int .u8 op), (4, .ptr 4 g4 0), (5, .ptr 5 g5 0), (6, grown 100 gk 1 kids), (9, .int .i64 out.length), (10, encSl co 1 (V.int .i64) own), (18, encSl c0 1 (encTree c1 c2) l), (19, .int .i64 l.l.length), (20, .int .i64 k), (53, encSl c1 3 (encNd c2) body), (54, .int .i64 body.l.length), (55, .int .i64 j)]
              [(4, .cells .new g4 0 [.nils]), (5, .cells .new g5 0 [grown 86 x.1 3 x.2]), (86, grownO x.1 (encNd .new) x.2), (100, grownO gk (V.int .i64) kids)])
            (fun j x => x.2 = out ++ (body.l.take j).map (movedN out.length)) 0 (go, out) (Nat.zero_le _) (by simp)
            (Weak.st (by simp -implicitDefEqProofs only [go_sem, seval, ↓reduceIte]; try simp) (by simp -implicitDefEqProofs only [go_sem, seval, ↓reduceIte])) ?_
          rintro j ⟨g3, out2⟩ hj hRj L11 hL11
          have hRj : out2 = out ++ (body.l.take j).map (movedN out.length) := hRj
          refine AW.seq_k fun K hK => AW.region (by kernel_rfl) ?_
          simp -implicitDefEqProofs only [go_sem, seval, ↓reduceIte]
          refine hK _ ?_
          clear hK K
          refine AW.seq_k fun K12 hK12 => ?_
          refine AW.condS (by simp -implicitDefEqProofs only [go_sem, seval, ↓reduceIte]; rfl) (fun h13 => ?_) (fun h13 => ?_)
          · -- true
            refine AW.skip ?_
            simp -implicitDefEqProofs only [go_sem, seval, ↓reduceIte]
            refine hK12 _ ?_
            have hj1 : j < body.l.length := by simpa using h13
            have hgj := List.getElem?_eq_getElem hj1
            have hnm := List.getElem_mem hj1
            generalize hnd : body.l[j] = nd at hnm hgj
            obtain ⟨hkl, hkv⟩ := hbm nd hnm
            refine AW.seq_k fun K14 hK14 => ?_
            refine AW.block ?_
            refine AW.seq_k fun K hK => AW.region (by kernel_rfl) ?_
            simp -implicitDefEqProofs only [go_sem, seval, ↓reduceIte, hgj]
            intro g12
            refine hK _ ?_
            clear hK K
            refine AW.seq_k fun K hK => AW.region (by kernel_rfl) ?_
            simp -implicitDefEqProofs only [go_sem, seval, ↓reduceIte]
            refine ⟨⟨by omega, by omega⟩, fun g62 => ?_⟩
            refine hK _ ?_
            clear hK K
            refine AW.seq_k fun K15 hK15 => ?_
            refine AW.seq_k fun K hK => AW.region (by kernel_rfl) ?_
            simp -implicitDefEqProofs only [go_sem, seval, ↓reduceIte]
            refine hK _ ?_
            clear hK K
            refine AW.block ?_
            refine AW.for nd.kids.l.length (fun i (x : Nat × List V) => st [(0, .int .u8 op), (4, .ptr 4 g4 0), (5, .ptr 5 g5 0), (6, grown 100 gk 1 kids), (9, .int .i64 out.length), (10, encSl co 1 (V.int .i64) own), (18, encSl c0 1 (encTree c1 c2) l), (19, .int .i64 l.l.length), (20, .int .i64 k), (53, encSl c1 3 (encNd c2) body), (54, .int .i64 body.l.length), (55, .int .i64 j), (12, .ptr 12 g12 0), (13, .msl 62 x.1 0 i 1), (64, encSl c2 1 (V.int .i64) nd.kids), (65, .int .i64 nd.kids.l.length), (66, .int .i64 i)]
                [(4, .cells .new g4 0 [.nils]), (5, .cells .new g5 0 [grown 86 g3 3 out2]), (86, grownO g3 (encNd .new) out2), (100, grownO gk (V.int .i64) kids), (12, .cells .new g12 0 [.int .u8 nd.op, .int .i64 nd.pl, encSl c2 1 (V.int .i64) nd.kids]), (62, .cells .new x.1 0 x.2)])
              (fun i x => (i = 0 ∧ x.2 = repV nd.kids.l.length [.int .i64 0]) ∨ x.2 = flat (((nd.kids.l.take i).map fun y => y + (out.length : Int)).map (V.int .i64))) 0 (g62, repV nd.kids.l.length [.int .i64 0]) (Nat.zero_le _) (.inl ⟨rfl, rfl⟩)
              (Weak.st (by simp -implicitDefEqProofs only [go_sem, seval, ↓reduceIte]; try simp) (by simp -implicitDefEqProofs only [go_sem, seval, ↓reduceIte])) ?_
            rintro i ⟨g6, cs⟩ hi hRi L16 hL16
            have hRi : (i = 0 ∧ cs = repV nd.kids.l.length [.int .i64 0]) ∨ cs = flat (((nd.kids.l.take i).map fun y => y + (out.length : Int)).map (V.int .i64)) := hRi
            refine AW.seq_k fun K hK => AW.region (by kernel_rfl) ?_
            simp -implicitDefEqProofs only [go_sem, seval, ↓reduceIte]
            refine hK _ ?_
            clear hK K
            refine AW.seq_k fun K17 hK17 => ?_
            refine AW.condS (by simp -implicitDefEqProofs only [go_sem, seval, ↓reduceIte]; rfl) (fun h18 => ?_) (fun h18 => ?_)
            · -- true
              refine AW.skip ?_
              simp -implicitDefEqProofs only [go_sem, seval, ↓reduceIte]
              refine hK17 _ ?_
              have hi1 : i < nd.kids.l.length := by simpa using h18
              have hgk := List.getElem?_eq_getElem hi1
              have hkm := hkv _ (List.getElem_mem hi1)
              generalize hkd : nd.kids.l[i] = kv at hgk hkm
              have hfl : (flat (((nd.kids.l.take i).map fun y => y + (out.length : Int)).map (V.int .i64))).length = i := by
                rw [flat_len (m := 1) (fun _ => rfl)]; simp; omega
              have hcs : i ≤ cs.length := by
                rcases hRi with ⟨h, _⟩ | h
                · omega
                · rw [h, hfl]; omega
              have hnx : cs.take i ++ [V.int .i64 (kv + (out.length : Int))] = flat (((nd.kids.l.take (i + 1)).map fun y => y + (out.length : Int)).map (V.int .i64)) := by
                rw [List.take_succ_eq_append_getElem hi1, List.map_append, List.map_append, flat_app, hkd]
                rcases hRi with ⟨h, _⟩ | h
                · subst h; rfl
                · rw [List.take_of_length_le (by rw [h, hfl]; omega), h]; rfl
              refine AW.seq_k fun K19 hK19 => ?_
              refine AW.block ?_
              refine AW.seq_k fun K hK => AW.region (by kernel_rfl) ?_
              simp -implicitDefEqProofs only [go_sem, seval, ↓reduceIte, hgk]
              refine hK _ ?_
              clear hK K
              refine AW.region (by kernel_rfl) ?_
              simp -implicitDefEqProofs only [go_sem, seval, ↓reduceIte]
              intro g74
              refine ⟨roomOk_of (by omega) (by omega), by omega, by omega, fun g75 => ?_⟩
              refine hK19 _ ?_
              refine AW.region (by kernel_rfl) ?_
              simp -implicitDefEqProofs only [go_sem, seval, ↓reduceIte]
              refine hL16 _ ⟨hi1, (g75, cs.take i ++ [V.int .i64 (kv + (out.length : Int))]), .inr hnx, Weak.st (by simp -implicitDefEqProofs only [go_sem, seval, ↓reduceIte]; exact congrArg _ (w64 (by omega) (by omega))) (by simp -implicitDefEqProofs only [go_sem, seval, ↓reduceIte, w64 (n := kv + (out.length : Int)) (by omega) (by omega), Nat.mul_one, List.drop_zero])⟩
            · -- false
              refine AW.exit ?_
              simp -implicitDefEqProofs only [go_sem, seval, ↓reduceIte]
              refine hK15 _ ?_
              have hi1 : i = nd.kids.l.length := by simp at h18; omega
              have hcs : cs = flat ((nd.kids.l.map fun y => y + (out.length : Int)).map (V.int .i64)) := by
                rw [hi1, List.take_length] at hRi
                rcases hRi with ⟨h1, h2⟩ | h
                · have h3 : nd.kids.l = [] := List.length_eq_zero_iff.1 h1
                  rw [h2, h3]; rfl
                · exact h
              refine AW.weak (Weak.stF (fun o => o == 62) (l := [(0, .int .u8 op), (4, .ptr 4 g4 0), (5, .ptr 5 g5 0), (6, grown 100 gk 1 kids), (9, .int .i64 out.length), (10, encSl co 1 (V.int .i64) own), (18, encSl c0 1 (encTree c1 c2) l), (19, .int .i64 l.l.length), (20, .int .i64 k), (53, encSl c1 3 (encNd c2) body), (54, .int .i64 body.l.length), (55, .int .i64 j), (12, .ptr 12 g12 0), (13, encSl .new 1 (V.int .i64) (movedN out.length nd).kids)])
                (m := [(4, .cells .new g4 0 [.nils]), (5, .cells .new g5 0 [grown 86 g3 3 out2]), (86, grownO g3 (encNd .new) out2), (100, grownO gk (V.int .i64) kids), (12, .cells .new g12 0 [.int .u8 nd.op, .int .i64 nd.pl, encSl c2 1 (V.int .i64) nd.kids])]) ?_ ?_) ?_
              · simp -implicitDefEqProofs only [go_sem, seval, ↓reduceIte]
                have hfr := Fz.sl (F := fun o => o == 62) (H := sets hNone [(4, .cells .new g4 0 [.nils]), (5, .cells .new g5 0 [grown 86 g3 3 out2]), (86, grownO g3 (encNd .new) out2), (100, grownO gk (V.int .i64) kids), (12, .cells .new g12 0 [.int .u8 nd.op, .int .i64 nd.pl, encSl c2 1 (V.int .i64) nd.kids]), (62, .cells .new g6 0 cs)]) (o := 62) (g := g6) (m := 1) (fz := 0) (c := .new) (f := V.int .i64) (l := nd.kids.l.map fun y => y + (out.length : Int)) rfl (by rw [hcs]; rfl) (fun _ => rfl)
                rw [List.length_map] at hfr
                rw [hi1]
                exact ⟨Fz.same _, Fz.same _, Fz.same _, Fz.same _, Fz.same _, Fz.same _, Fz.same _, Fz.same _, Fz.same _, Fz.same _, Fz.same _, Fz.same _, Fz.same _, hfr⟩
              · simp only [allFzO_cons, allFzO_nil, and_true]
                exact ⟨FzO.keep rfl rfl, FzO.keep rfl rfl, FzO.keep rfl rfl, FzO.keep rfl rfl, FzO.keep rfl rfl⟩
              refine AW.region (by kernel_rfl) ?_
              simp -implicitDefEqProofs only [go_sem, seval, ↓reduceIte]
              intro g85
              have hol : out2.length < 1000000000 := by rw [hRj]; simp; omega
              refine app_grown (f := encNd .new) (l := out2) (l2 := [movedN out.length nd]) (g := g3) (fun _ => rfl) rfl rfl rfl rfl (roomOk_of (by omega) (by simp; omega)) fun g86 => ?_
              simp -implicitDefEqProofs only [go_sem, seval, ↓reduceIte]
              refine hK14 _ ?_
              refine AW.region (by kernel_rfl) ?_
              simp -implicitDefEqProofs only [go_sem, seval, ↓reduceIte]
              refine hL11 _ ⟨hj1, (g86, out2 ++ [movedN out.length nd]), ?_, Weak.st (by simp -implicitDefEqProofs only [go_sem, seval, ↓reduceIte]; exact congrArg _ (w64 (by omega) (by omega))) (by simp -implicitDefEqProofs only [go_sem, seval, ↓reduceIte])⟩
              rw [List.take_succ_eq_append_getElem hj1, List.map_append, ← List.append_assoc, ← hRj, hnd]
              rfl
          · -- false
            refine AW.exit ?_
            simp -implicitDefEqProofs only [go_sem, seval, ↓reduceIte]
            have hj1 : j = body.l.length := by simp at h13; omega
            refine hK10 _ (g3, out2) ?_ (Weak.st (by simp -implicitDefEqProofs only [go_sem, seval, ↓reduceIte]) (by simp -implicitDefEqProofs only [go_sem, seval, ↓reduceIte]))
            show out2 = _
            rw [hRj, hj1, List.take_length]
        · rintro ⟨g3, out2⟩ hout
          have hout : out2 = out ++ body.l.map (movedN out.length) := hout
          have hol : out2.length = out.length + body.l.length := by rw [hout]; simp
          refine AW.seq_k fun K hK => AW.region (by kernel_rfl) ?_
          simp -implicitDefEqProofs only [go_sem, seval, ↓reduceIte]
          refine hK _ ?_
          clear hK K
          refine AW.block ?_
          refine AW.for own.l.length (fun j (x : Nat × List Int) => st [(0, .int .u8 op), (4, .ptr 4 g4 0), (5, .ptr 5 g5 0), (6, grown 100 x.1 1 x.2), (9, .int .i64 out.length), (18, encSl c0 1 (encTree c1 c2) l), (19, .int .i64 l.l.length), (20, .int .i64 k), (89, encSl co 1 (V.int .i64) own), (90, .int .i64 own.l.length), (91, .int .i64 j)]
              [(4, .cells .new g4 0 [.nils]), (5, .cells .new g5 0 [grown 86 g3 3 out2]), (86, grownO g3 (encNd .new) out2), (100, grownO x.1 (V.int .i64) x.2)])
            (fun j x => x.2 = kids ++ (own.l.take j).map fun y => y + (out.length : Int)) 0 (gk, kids) (Nat.zero_le _) (by simp)
            (Weak.st (by simp -implicitDefEqProofs only [go_sem, seval, ↓reduceIte]; try simp) (by simp -implicitDefEqProofs only [go_sem, seval, ↓reduceIte])) ?_
          rintro j ⟨gk2, kids2⟩ hj hRj L20 hL20
          have hRj : kids2 = kids ++ (own.l.take j).map fun y => y + (out.length : Int) := hRj
          refine AW.seq_k fun K hK => AW.region (by kernel_rfl) ?_
          simp -implicitDefEqProofs only [go_sem, seval, ↓reduceIte]
          refine hK _ ?_
          clear hK K
          refine AW.seq_k fun K21 hK21 => ?_
          refine AW.condS (by simp -implicitDefEqProofs only [go_sem, seval, ↓reduceIte]; rfl) (fun h22 => ?_) (fun h22 => ?_)
          · -- true
            refine AW.skip ?_
            simp -implicitDefEqProofs only [go_sem, seval, ↓reduceIte]
            refine hK21 _ ?_
            have hj1 : j < own.l.length := by simpa using h22
            have hgk := List.getElem?_eq_getElem hj1
            have hkm := hownv _ (List.getElem_mem hj1)
            generalize hkd : own.l[j] = kv at hgk hkm
            have hkl : kids2.length < 1000000000 := by rw [hRj]; simp; omega
            refine AW.seq_k fun K23 hK23 => ?_
            refine AW.block ?_
            refine AW.seq_k fun K hK => AW.region (by kernel_rfl) ?_
            simp -implicitDefEqProofs only [go_sem, seval, ↓reduceIte, hgk]
            refine hK _ ?_
            clear hK K
            refine AW.region (by kernel_rfl) ?_
            simp -implicitDefEqProofs only [go_sem, seval, ↓reduceIte]
            intro g99
            refine app_grown (f := V.int .i64) (l := kids2) (l2 := [kv + (out.length : Int)]) (g := gk2) (fun _ => rfl) rfl (by rw [w64 (by omega) (by omega)]; rfl) rfl rfl (roomOk_of (by omega) (by simp; omega)) fun g100 => ?_
            simp -implicitDefEqProofs only [go_sem, seval, ↓reduceIte]
            refine hK23 _ ?_
            refine AW.region (by kernel_rfl) ?_
            simp -implicitDefEqProofs only [go_sem, seval, ↓reduceIte]
            refine hL20 _ ⟨hj1, (g100, kids2 ++ [kv + (out.length : Int)]), ?_, Weak.st (by simp -implicitDefEqProofs only [go_sem, seval, ↓reduceIte]; exact congrArg _ (w64 (by omega) (by omega))) (by simp -implicitDefEqProofs only [go_sem, seval, ↓reduceIte])⟩
            rw [List.take_succ_eq_append_getElem hj1, List.map_append, ← List.append_assoc, ← hRj, hkd]
            rfl
          · -- false
            refine AW.exit ?_
            simp -implicitDefEqProofs only [go_sem, seval, ↓reduceIte]
            refine hK5 _ ?_
            have hj1 : j = own.l.length := by simp at h22; omega
            have hkids : kids2 = kids ++ own.l.map fun y => y + (out.length : Int) := by rw [hRj, hj1, List.take_length]
            refine AW.region (by kernel_rfl) ?_
            simp -implicitDefEqProofs only [go_sem, seval, ↓reduceIte]
            refine hL2 _ ⟨hk1, ((g3, out2), (gk2, kids2)), ⟨?_, ?_⟩, Weak.st (by simp -implicitDefEqProofs only [go_sem, seval, ↓reduceIte]; exact congrArg _ (w64 (by omega) (by omega))) (by simp -implicitDefEqProofs only [go_sem, seval, ↓reduceIte])⟩
            · rw [← hR1, hol, hout, List.append_assoc]
            · rw [← hR2, hol, hkids, List.append_assoc]
  · -- false
    refine AW.exit ?_
    simp -implicitDefEqProofs only [go_sem, seval, ↓reduceIte]
    refine hK1 _ ?_
    have hk1 : k = l.l.length := by simp at h4; omega
    have hout : out = putRows op (l.l.map Sl.l) 0 := by rw [← hR1, hk1]; simp [putRows]
    have hkids : kids = putKd op (l.l.map Sl.l) 0 := by rw [← hR2, hk1]; simp [putKd]
    refine AW.weak (Weak.stF (fun o => o == 100) (l := [(0, .int .u8 op), (4, .ptr 4 g4 0), (5, .ptr 5 g5 0), (6, encSl .new 1 (V.int .i64) (grownS kids))])
      (m := [(4, .cells .new g4 0 [.nils]), (5, .cells .new g5 0 [grown 86 go 3 out]), (86, grownO go (encNd .new) out)]) ?_ ?_) ?_
    · simp -implicitDefEqProofs only [go_sem, seval, ↓reduceIte]
      exact ⟨Fz.same _, Fz.same _, Fz.same _, Fz.grown rfl rfl (fun _ => rfl)⟩
    · simp only [allFzO_cons, allFzO_nil, and_true]
      exact ⟨FzO.keep rfl rfl, FzO.keep rfl rfl, FzO.keep rfl rfl⟩
    refine AW.seqJ (fun (x : (Nat × Nat) × List Nd) => st [(4, .ptr 4 g4 0), (5, .ptr 5 g5 0)] [(4, .cells .new g4 0 [.nils]), (5, .cells .new g5 0 [grown x.1.1 x.1.2 3 x.2]), (x.1.1, grownO x.1.2 (encNd .new) x.2)])
      (fun x => (x.1.1 = 86 ∨ x.1.1 = 112) ∧ x.2 = putS op (l.l.map Sl.l)) (fun K38 hK38 => ?_) ?_
    · refine AW.seq_k fun K hK => AW.region (by kernel_rfl) ?_
      simp -implicitDefEqProofs only [go_sem, seval, ↓reduceIte]
      refine hK _ ?_
      clear hK K
      refine AW.condS (by simp -implicitDefEqProofs only [go_sem, seval, ↓reduceIte]; rfl) (fun h39 => ?_) (fun h39 => ?_)
      · -- true
        have h39' : kids.length > 1 := by simp at h39; omega
        refine AW.region (by kernel_rfl) ?_
        simp -implicitDefEqProofs only [go_sem, seval, ↓reduceIte]
        intro g111
        have hol : out.length < 1000000000 := by rw [hout]; exact hLo
        refine app_grown2 (f := encNd .new) (l := out) (l2 := [⟨op, 0, grownS kids⟩]) (o := 86) (g := go) (fun _ => rfl) rfl rfl rfl rfl (roomOk_of (by omega) (by simp; omega)) fun o2 g2 ho2 => ?_
        have ho2' : o2 = 86 ∨ o2 = 112 := by rcases ho2 with rfl | rfl; · { exact .inl rfl }; · exact .inr rfl
        have ne1 : (4 = o2) = False := by rcases ho2' with rfl | rfl <;> simp
        have ne2 : (5 = o2) = False := by rcases ho2' with rfl | rfl <;> simp
        have ne3 : (o2 = 5) = False := by rcases ho2' with rfl | rfl <;> simp
        simp -implicitDefEqProofs only [go_sem, seval, ↓reduceIte, ne1, ne2, ne3]
        refine hK38 _ ((o2, g2), out ++ [⟨op, 0, grownS kids⟩]) ⟨ho2', ?_⟩ (Weak.st (by simp -implicitDefEqProofs only [go_sem, seval, ↓reduceIte]) (by simp -implicitDefEqProofs only [go_sem, seval, ↓reduceIte, ne1, ne2, ne3]))
        show _ = putS _ _
        rw [putS, ← hkids, if_pos h39', hout]
      · -- false
        have h39' : ¬ kids.length > 1 := by simp at h39; omega
        refine AW.skip ?_
        simp -implicitDefEqProofs only [go_sem, seval, ↓reduceIte]
        refine hK38 _ ((86, go), out) ⟨.inl rfl, ?_⟩ (Weak.st (by simp -implicitDefEqProofs only [go_sem, seval, ↓reduceIte]) (by simp -implicitDefEqProofs only [go_sem, seval, ↓reduceIte]))
        show _ = putS _ _
        rw [putS, ← hkids, if_neg h39', hout, List.append_nil]
    · rintro ⟨⟨o2, g2⟩, res⟩ ⟨ho2', hres⟩
      have ho2' : o2 = 86 ∨ o2 = 112 := ho2'
      have hres : res = putS op (l.l.map Sl.l) := hres
      have ne1 : (4 = o2) = False := by rcases ho2' with rfl | rfl <;> simp
      have ne2 : (5 = o2) = False := by rcases ho2' with rfl | rfl <;> simp
      have ne3 : (o2 = 5) = False := by rcases ho2' with rfl | rfl <;> simp
      have ne4 : (o2 = 4) = False := by rcases ho2' with rfl | rfl <;> simp
      refine AW.weak (Weak.stF (fun o => o == o2) (l := [(4, .ptr 4 g4 0), (5, .ptr 5 g5 0)])
        (m := [(4, .cells .new g4 0 [.nils]), (5, .cells .new g5 0 [encSl .new 3 (encNd .new) (grownS res)])]) ?_ ?_) ?_
      · simp -implicitDefEqProofs only [go_sem, seval, ↓reduceIte]
        exact ⟨Fz.same _, Fz.same _⟩
      · simp only [allFzO_cons, allFzO_nil, and_true]
        exact ⟨FzO.keep (by simpa using fun e => by simp [e] at ne1) (by simp -implicitDefEqProofs only [go_sem, seval, ↓reduceIte, ne1]), FzO.of (cs := [grown o2 g2 3 res]) (by simpa using fun e => by simp [e] at ne2) (by simp -implicitDefEqProofs only [go_sem, seval, ↓reduceIte, ne2]) ⟨Fz.grown (by simp) (by simp -implicitDefEqProofs only [go_sem, seval, ↓reduceIte, ne3, ne4]) (fun _ => rfl), trivial⟩⟩
      refine AW.seq_k fun K hK => AW.region (by kernel_rfl) ?_
      simp -implicitDefEqProofs only [go_sem, seval, ↓reduceIte]
      refine hK _ ?_
      clear hK K
      refine AW.ret ?_
      simp -implicitDefEqProofs only [go_sem, seval, ↓reduceIte]
      refine endK_some ?_
      rw [hres]
end Go.Hs
end

section
namespace Go.Hs
open Go.Proofs
set_option maxRecDepth 10000

def cloneS {α : Type} : Sl α → Sl α | .nil => .nil | .mk _ l => .mk false l
@[go_sem] theorem cloneS_l {α : Type} (s : Sl α) : (cloneS s).l = s.l := by cases s <;> rfl
/- slices.Clone[[]int,int] -/
theorem sClone_spec (G : Nat → V) (hG : GOk G) (c : Col) (a : Sl Int) (ha : a.l.length < 1000000000) :
    Spec Try.prog G 40 [encSl c 1 (V.int .i64) a] hNone (fun v _ => v = encSl .new 1 (V.int .i64) (cloneS a)) := by
  refine Spec.of_code' 0 8 [.tmp 2] Try.func40 rfl rfl rfl rfl fun X => ?_
  refine AW.seq_k fun K hK => AW.region (by kernel_rfl) ?_
  simp -implicitDefEqProofs only [go_sem, seval, ↓reduceIte]
  refine hK _ ?_
  clear hK K
  refine AW.seq_k fun K1 hK1 => ?_
  cases a with
  | nil =>
    simp only [encSl]
    refine AW.seq_k fun K hK => AW.region (by kernel_rfl) ?_
    simp -implicitDefEqProofs only [go_sem, seval, ↓reduceIte]
    refine hK _ ?_
    clear hK K
    refine AW.condS (by simp -implicitDefEqProofs only [go_sem, seval, ↓reduceIte]; rfl) (fun h2 => ?_) (fun h2 => ?_)
    · -- true
      refine AW.seq_k fun K hK => AW.region (by kernel_rfl) ?_
      simp -implicitDefEqProofs only [go_sem, seval, ↓reduceIte]
      refine hK _ ?_
      clear hK K
      refine AW.ret ?_
      simp -implicitDefEqProofs only [go_sem, seval, ↓reduceIte]
      refine endK_some ?_
      rfl
    · simp at h2
  | mk cl l =>
    simp only [encSl]
    refine AW.seq_k fun K hK => AW.region (by kernel_rfl) ?_
    simp -implicitDefEqProofs only [go_sem, seval, ↓reduceIte]
    refine hK _ ?_
    clear hK K
    refine AW.condS (by simp -implicitDefEqProofs only [go_sem, seval, ↓reduceIte]; rfl) (fun h2 => ?_) (fun h2 => ?_)
    · simp at h2
    · -- false
      refine AW.skip ?_
      simp -implicitDefEqProofs only [go_sem, seval, ↓reduceIte]
      refine hK1 _ ?_
      refine AW.seq_k fun K3 hK3 => AW.region (by kernel_rfl) ?_
      simp -implicitDefEqProofs only [go_sem, seval, ↓reduceIte]
      intro g
      refine ⟨roomOk_of (by omega) (by have : l.length < 1000000000 := ha; rw [List.length_map]; omega), fun g2 => ?_⟩
      refine hK3 _ ?_
      refine AW.weak (Weak.stF (fun o => o == 5) (l := [(2, encSl .new 1 (V.int .i64) (.mk false l))]) (m := []) ?_ trivial) ?_
      · simp -implicitDefEqProofs only [go_sem, seval, ↓reduceIte]
        rw [List.length_map]
        exact Fz.sl rfl rfl (fun _ => rfl)
      · simp -implicitDefEqProofs only [go_sem, seval, ↓reduceIte]
        refine AW.ret ?_
        simp -implicitDefEqProofs only [go_sem, seval, ↓reduceIte]
        refine endK_some ?_
        rfl
end Go.Hs
end

section
namespace Go.Hs
open Go.Proofs
set_option maxRecDepth 10000
def Nd.copy (n : Nd) : Nd := ⟨n.op, n.pl, cloneS n.kids⟩
theorem Nd.copy_v (n : Nd) : n.copy.v = n.v := by simp [Nd.copy, Nd.v, cloneS_l]
/- hopscotch/steps.copied -/
theorem copied_spec (G : Nat → V) (hG : GOk G) (c1 c2 : Col) (t : Sl Nd) (ht : t.l.length < 1000000000) (hk : ∀ n ∈ t.l, n.kids.l.length < 1000000000) :
    Spec Try.prog G 29 [encTree c1 c2 t] hNone (fun v _ => v = encTree .new .new (grownS (t.l.map Nd.copy))) := by
  refine Spec.of_code' 0 28 [ResultVar.cell 2 24] Try.func29 rfl rfl rfl rfl fun X => ?_
  refine AW.seq_k fun K hK => AW.region (by kernel_rfl) ?_
  simp -implicitDefEqProofs only [go_sem, seval, ↓reduceIte]
  intro g1 g2
  refine hK _ ?_
  clear hK K
  refine AW.seq_k fun K hK => AW.region (by kernel_rfl) ?_
  simp -implicitDefEqProofs only [go_sem, seval, ↓reduceIte]
  intro g3
  refine hK _ ?_
  clear hK K
  refine AW.seq_k fun K1 hK1 => ?_
  refine AW.seq_k fun K hK => AW.region (by kernel_rfl) ?_
  simp -implicitDefEqProofs only [go_sem, seval, ↓reduceIte]
  refine hK _ ?_
  clear hK K
  refine AW.block ?_
  refine AW.for t.l.length (fun k (x : Nat × List Nd) => st [(2, .ptr 2 g2 0), (3, .ptr 3 g3 0), (7, encSl c1 3 (encNd c2) t), (8, .int .i64 t.l.length), (9, .int .i64 k)]
      [(2, .cells .new g2 0 [.nils]), (3, .cells .new g3 0 [grown 24 x.1 3 x.2]), (24, grownO x.1 (encNd .new) x.2)])
    (fun k x => x.2 = (t.l.take k).map Nd.copy) 0 (0, []) (Nat.zero_le _) (by simp)
    (Weak.st (by simp -implicitDefEqProofs only [go_sem, seval, ↓reduceIte]; try simp) (by simp -implicitDefEqProofs only [go_sem, seval, ↓reduceIte]; exact ⟨rfl, rfl⟩)) ?_
  rintro k ⟨gx, l⟩ hk2 hR L2 hL2
  refine AW.seq_k fun K hK => AW.region (by kernel_rfl) ?_
  simp -implicitDefEqProofs only [go_sem, seval, ↓reduceIte]
  refine hK _ ?_
  clear hK K
  refine AW.seq_k fun K3 hK3 => ?_
  refine AW.condS (by simp -implicitDefEqProofs only [go_sem, seval, ↓reduceIte]; rfl) (fun h4 => ?_) (fun h4 => ?_)
  · -- true
    refine AW.skip ?_
    simp -implicitDefEqProofs only [go_sem, seval, ↓reduceIte]
    refine hK3 _ ?_
    have hk1 : k < t.l.length := by simpa using h4
    have hgi := List.getElem?_eq_getElem hk1
    have hnm := List.getElem_mem hk1
    have hR : l = (t.l.take k).map Nd.copy := hR
    have hll : l.length = k := by rw [hR]; simp; omega
    refine AW.seq_k fun K5 hK5 => ?_
    refine AW.block ?_
    refine AW.seq_k fun K hK => AW.region (by kernel_rfl) ?_
    simp -implicitDefEqProofs only [go_sem, seval, ↓reduceIte, hgi]
    intro g5
    refine hK _ ?_
    clear hK K
    refine AW.regionT ⟨fun i => if i = 8 then encSl .new 1 (V.int .i64) (cloneS t.l[k].kids) else .top, fun _ => .pure⟩ (by kernel_rfl) hG (by kernel_rfl) (by kernel_rfl) ?_
    simp -implicitDefEqProofs only [go_sem, seval, ↓reduceIte]
    refine ⟨⟨by kernel_rfl, ?_⟩, fun g23 => ?_⟩
    · simp -implicitDefEqProofs only [go_sem, seval, ↓reduceIte]
      refine (sClone_spec G hG _ t.l[k].kids (hk _ hnm)).mono ?_
      rintro _ _ rfl
      simp -implicitDefEqProofs only [go_sem, seval, ↓reduceIte]
    · refine app_grown (f := encNd .new) (l := l) (l2 := [Nd.copy t.l[k]]) (g := gx) (fun _ => rfl) rfl rfl rfl (by simp -implicitDefEqProofs only [go_sem, seval, ↓reduceIte]) (roomOk_of (by omega) (by simp; omega)) fun g24 => ?_
      simp -implicitDefEqProofs only [go_sem, seval, ↓reduceIte]
      refine hK5 _ ?_
      refine AW.region (by kernel_rfl) ?_
      simp -implicitDefEqProofs only [go_sem, seval, ↓reduceIte]
      refine hL2 _ ⟨hk1, (g24, l ++ [Nd.copy t.l[k]]), ?_, Weak.st (by simp -implicitDefEqProofs only [go_sem, seval, ↓reduceIte]; exact congrArg _ (w64 (by omega) (by omega))) (by simp -implicitDefEqProofs only [go_sem, seval, ↓reduceIte])⟩
      rw [List.take_succ_eq_append_getElem hk1, List.map_append, ← hR]
      rfl
  · -- false
    refine AW.exit ?_
    simp -implicitDefEqProofs only [go_sem, seval, ↓reduceIte]
    refine hK1 _ ?_
    have hk1 : k = t.l.length := by simp at h4; omega
    have hl : l = t.l.map Nd.copy := by
      have : l = (t.l.take k).map Nd.copy := hR
      rw [this, hk1, List.take_length]
    refine AW.weak (Weak.stF (fun o => o == 24) (l := [(2, .ptr 2 g2 0), (3, .ptr 3 g3 0)])
      (m := [(2, .cells .new g2 0 [.nils]), (3, .cells .new g3 0 [encSl .new 3 (encNd .new) (grownS l)])]) ?_ ?_) ?_
    · simp -implicitDefEqProofs only [go_sem, seval, ↓reduceIte]
      exact ⟨Fz.same _, Fz.same _⟩
    · simp only [allFzO_cons, allFzO_nil, and_true]
      exact ⟨FzO.same rfl, FzO.of rfl rfl ⟨Fz.grown rfl rfl (fun _ => rfl), trivial⟩⟩
    refine AW.seq_k fun K hK => AW.region (by kernel_rfl) ?_
    simp -implicitDefEqProofs only [go_sem, seval, ↓reduceIte]
    refine hK _ ?_
    clear hK K
    refine AW.ret ?_
    simp -implicitDefEqProofs only [go_sem, seval, ↓reduceIte]
    refine endK_some ?_
    rw [hl]
end Go.Hs
end

section
namespace Go.Hs
open Go.Proofs
set_option maxRecDepth 10000

/- hopscotch/steps.Leaf -/
def leafN (op pl : Int) : List Nd := if op < 3 ∨ op > 7 then [] else [⟨op, pl, .nil⟩]
theorem leaf_spec (G : Nat → V) (hG : GOk G) (op pl : Int) :
    Spec Try.prog G 24 [.int .u8 op, .int .i64 pl] hNone (fun v _ => v = encTree .new .new (grownS (leafN op pl))) := by
  refine Spec.of_code' 0 17 [ResultVar.cell 4 24] Try.func24 rfl rfl rfl rfl fun X => ?_
  refine AW.seq_k fun K hK => AW.region (by kernel_rfl) ?_
  simp -implicitDefEqProofs only [go_sem, seval, ↓reduceIte]
  intro g4
  refine hK _ ?_
  clear hK K
  refine AW.seq_k fun K1 hK1 => ?_
  by_cases h : op < 3 ∨ op > 7
  · have hr : V.agg [V.nils] = encTree .new .new (grownS (leafN op pl)) := by rw [leafN, if_pos h]; rfl
    by_cases h1 : op < 3
    · refine AW.seq_k fun K hK => AW.region (by kernel_rfl) ?_
      simp -implicitDefEqProofs only [go_sem, seval, ↓reduceIte, decide_eq_true h1]
      refine hK _ ?_
      clear hK K
      refine AW.condS (by simp -implicitDefEqProofs only [go_sem, seval, ↓reduceIte]; rfl) (fun h2 => ?_) (fun h2 => ?_)
      · refine AW.seq_k fun K hK => AW.region (by kernel_rfl) ?_
        simp -implicitDefEqProofs only [go_sem, seval, ↓reduceIte]
        refine hK _ ?_
        clear hK K
        refine AW.ret ?_
        simp -implicitDefEqProofs only [go_sem, seval, ↓reduceIte]
        refine endK_some ?_
        exact hr
      · simp at h2
    · have h3 : op > 7 := by omega
      refine AW.seq_k fun K hK => AW.region (by kernel_rfl) ?_
      simp -implicitDefEqProofs only [go_sem, seval, ↓reduceIte, decide_eq_false h1, decide_eq_true h3]
      refine hK _ ?_
      clear hK K
      refine AW.condS (by simp -implicitDefEqProofs only [go_sem, seval, ↓reduceIte]; rfl) (fun h2 => ?_) (fun h2 => ?_)
      · refine AW.seq_k fun K hK => AW.region (by kernel_rfl) ?_
        simp -implicitDefEqProofs only [go_sem, seval, ↓reduceIte]
        refine hK _ ?_
        clear hK K
        refine AW.ret ?_
        simp -implicitDefEqProofs only [go_sem, seval, ↓reduceIte]
        refine endK_some ?_
        exact hr
      · simp at h2
  · have h1 : ¬ op < 3 := by omega
    have h3 : ¬ op > 7 := by omega
    refine AW.seq_k fun K hK => AW.region (by kernel_rfl) ?_
    simp -implicitDefEqProofs only [go_sem, seval, ↓reduceIte, decide_eq_false h1, decide_eq_false h3]
    refine hK _ ?_
    clear hK K
    refine AW.condS (by simp -implicitDefEqProofs only [go_sem, seval, ↓reduceIte]; rfl) (fun h2 => ?_) (fun h2 => ?_)
    · simp at h2
    · refine AW.skip ?_
      simp -implicitDefEqProofs only [go_sem, seval, ↓reduceIte]
      refine hK1 _ ?_
      refine AW.seq_k fun K hK => AW.region (by kernel_rfl) ?_
      simp -implicitDefEqProofs only [go_sem, seval, ↓reduceIte]
      intro g15
      refine hK _ ?_
      clear hK K
      refine AW.weak (Weak.stF (fun o => o == 15) (l := [(4, .ptr 4 g4 0)]) (m := [(4, .cells .new g4 0 [encSl .new 3 (encNd .new) (.mk false [⟨op, pl, .nil⟩])])]) ?_ ?_) ?_
      · simp -implicitDefEqProofs only [go_sem, seval, ↓reduceIte]
        exact Fz.same _
      · simp only [allFzO_cons, allFzO_nil, and_true]
        exact FzO.of rfl rfl ⟨Fz.sl (f := encNd .new) (l := [⟨op, pl, .nil⟩]) rfl rfl (fun _ => rfl), trivial⟩
      refine AW.ret ?_
      simp -implicitDefEqProofs only [go_sem, seval, ↓reduceIte]
      refine endK_some ?_
      rw [leafN, if_neg h]
      rfl
end Go.Hs
end

section
namespace Go.Hs
open Go.Proofs
set_option maxRecDepth 10000
def walkF (t : Sl Nd) (g4 g3 : Nat) : V := .func (.func 35) [] [.view .any (encTree .any .any t), .ptr 4 g4 0, .ptr 3 g3 0]
def walkO (t : Sl Nd) (g4 g3 : Nat) : AObj := .cells .any g4 0 [walkF t g4 g3]
def outO (g3 gx : Nat) (out : List Int) : AObj := .cells .any g3 0 [grown 1018 gx 1 out]
def arrO (gx : Nat) (out : List Int) : AObj := grownC .any gx (V.int .i64) out
theorem walkO_K (t : Sl Nd) (g4 g3 : Nat) : walkO t g4 g3 = .cells .any g4 0 [.func (.func 35) [] [.view .any (encTree .any .any t), .ptr 4 g4 0, .ptr 3 g3 0]] := rfl
theorem outO_K (g3 gx : Nat) (out : List Int) : outO g3 gx out = .cells .any g3 0 [grown 1018 gx 1 out] := rfl
def WalkS (G : Nat → V) (t : Sl Nd) (g4 g3 : Nat) (i : Nat) (res : List Int) : Prop :=
  ∀ (gx : Nat) (out : List Int), out.length + res.length < 1000000000 → Spec Try.prog G 35 [.int .i64 i, .view .any (encTree .any .any t), .ptr 4 g4 0, .ptr 3 g3 0]
    (sets hNone [(4, walkO t g4 g3), (3, outO g3 gx out), (1018, arrO gx out)])
    (fun v H' => v = .tuple [] ∧ ∃ gx', H' 4 = walkO t g4 g3 ∧ H' 3 = outO g3 gx' (out ++ res) ∧ H' 1018 = arrO gx' (out ++ res))
/-- The walk, called by whom holds its three objects. -/
theorem WalkS.call {G : Nat → V} (hG : GOk G) {t : Sl Nd} {g4 g3 i : Nat} {res : List Int} (h : WalkS G t g4 g3 i res) {gx : Nat} {out : List Int} {H : Heap} {K : V → Heap → Prop} (hl : out.length + res.length < 1000000000)
    (h4 : H 4 = walkO t g4 g3) (h3 : H 3 = outO g3 gx out) (h1 : H 1018 = arrO gx out)
    (hk : ∀ gx', K (.tuple []) (sets H [(4, walkO t g4 g3), (3, outO g3 gx' (out ++ res)), (1018, arrO gx' (out ++ res))])) :
    CallA Try.prog G 35 [.int .i64 i, .view .any (encTree .any .any t), .ptr 4 g4 0, .ptr 3 g3 0] H K := by
  have e4 : ∀ f : Col → Col, f .any = .any → (walkO t g4 g3).recol f = walkO t g4 g3 := by
    intro f hf
    simp only [walkO_K, recol_cells, List.map_cons, List.map_nil, recol_func, recol_view, recol_ptr, hf, encTree, recol_agg, recol_nds]
  have e3 : ∀ (f : Col → Col) gx out, f .any = .any → (outO g3 gx out).recol f = outO g3 gx out := by
    intro f gx out hf
    simp only [outO_K, recol_cells, List.map_cons, List.map_nil, recol_grown, hf]
  have e1 : ∀ (f : Col → Col) gx out, f .any = .any → (arrO gx out).recol f = arrO gx out := by
    intro f gx out hf
    rw [arrO, grownC_recol f .any gx (V.int .i64) (V.int .i64) (fun _ => rfl), hf]
  refine CallA.hand hG [(4, walkO t g4 g3), (3, outO g3 gx out), (1018, arrO gx out)] (by kernel_rfl) ?_ ?_
  · intro p hp
    simp only [List.mem_cons, List.not_mem_nil, or_false] at hp
    rcases hp with rfl | rfl | rfl
    · rw [h4, e4 _ rfl]
    · rw [h3, e3 _ _ _ rfl]
    · rw [h1, e1 _ _ _ rfl]
  · have hargs : [V.int .i64 i, .view .any (encTree .any .any t), .ptr 4 g4 0, .ptr 3 g3 0].map (V.recol Col.ent) = [V.int .i64 i, .view .any (encTree .any .any t), .ptr 4 g4 0, .ptr 3 g3 0] := by
      simp only [List.map_cons, List.map_nil, recol_view, recol_ptr, recol_int, ent_any, encTree, recol_agg, recol_nds]
    rw [hargs]
    refine (h gx out hl).mono ?_
    rintro _ H' ⟨rfl, gx', q4, q3, q1⟩
    simp only [List.map_cons, List.map_nil, q4, q3, q1, e4 _ bk_any, e3 _ _ _ bk_any, e1 _ _ _ bk_any]
    exact hk gx'
/- hopscotch/steps.Ready$1 -/
theorem walk_spec (G : Nat → V) (hG : GOk G) (t : Sl Nd) (ht : t.l.length < 1000000000) (hks : ∀ n ∈ t.l, n.kids.l.length < 1000000000) (hok : ∀ i n, t.l[i]? = some n → NodeOk n i) (g4 g3 : Nat) :
    ∀ (f i : Nat), i < f → i < t.l.length → WalkS G t g4 g3 i (readyAt t.l f i) := by
  intro f
  induction f with
  | zero => intro i h; omega
  | succ f ih =>
  intro i hif hit gx out hl
  have hgi := List.getElem?_eq_getElem hit
  have hnm := List.getElem_mem hit
  generalize t.l[i] = n at hgi hnm
  have hn := hok i n hgi
  have hkl := hks n hnm
  have hres : readyAt t.l (f + 1) i = if n.op = 1 then (match n.kids.l with | [] => [] | k :: _ => readyAt t.l f k.toNat)
      else if n.op = 2 then n.kids.l.flatMap fun k => readyAt t.l f k.toNat else [(i : Int)] := by rw [readyAt, hgi]; try rfl
  refine Spec.of_code' 1000 40 [] Try.func35 rfl rfl rfl rfl fun X => ?_
  simp only [sets, walkO_K, outO_K]
  refine AW.seq_k fun K hK => AW.region (by kernel_rfl) ?_
  simp -implicitDefEqProofs only [go_sem, seval, ↓reduceIte, hgi]
  intro g5
  refine hK _ ?_
  clear hK K
  refine AW.seq_k fun K hK => AW.region (by kernel_rfl) ?_
  simp -implicitDefEqProofs only [go_sem, seval, ↓reduceIte]
  refine hK _ ?_
  clear hK K
  refine AW.block ?_
  refine AW.seq_k fun K hK => AW.region (by kernel_rfl) ?_
  simp -implicitDefEqProofs only [go_sem, seval, ↓reduceIte]
  refine hK _ ?_
  clear hK K
  refine AW.condS (by simp -implicitDefEqProofs only [go_sem, seval, ↓reduceIte]; rfl) (fun h1 => ?_) (fun h1 => ?_)
  · -- true
    have h1' : n.op = 1 := by simpa using h1
    rw [if_pos h1'] at hres
    obtain ⟨k0, kr, hk⟩ : ∃ k0 kr, n.kids.l = k0 :: kr := by
      cases hk : n.kids.l with
      | nil => rcases hn with hn | ⟨_, _, hn, _⟩
               · omega
               · rw [hk] at hn; simp at hn
      | cons k0 kr => exact ⟨k0, kr, rfl⟩
    have hkv : 0 ≤ k0 ∧ k0 < (i : Int) := by
      rcases hn with hn | ⟨_, _, _, hn⟩
      · omega
      · exact hn k0 (by rw [hk]; simp)
    obtain ⟨kn, rfl⟩ : ∃ kn : Nat, k0 = kn := ⟨k0.toNat, by omega⟩
    have hres : readyAt t.l (f + 1) i = readyAt t.l f kn := by rw [hres, hk]; rfl
    have hk0 : n.kids.l[0]? = some (kn : Int) := by rw [hk]; rfl
    rw [hres] at hl ⊢
    refine AW.regionT ⟨fun _ => .top, fun _ => .any⟩ (by kernel_rfl) hG (by kernel_rfl) (by kernel_rfl) ?_
    simp -implicitDefEqProofs only [go_sem, seval, ↓reduceIte, hk0]
    refine WalkS.call hG (ih kn (by omega) (by omega)) (gx := gx) (out := out) hl (by simp -implicitDefEqProofs only [go_sem, seval, ↓reduceIte]; try rfl) (by simp -implicitDefEqProofs only [go_sem, seval, ↓reduceIte]; try rfl) (by simp -implicitDefEqProofs only [go_sem, seval, ↓reduceIte]) fun gx' => ?_
    simp -implicitDefEqProofs only [go_sem, seval, ↓reduceIte, sets]
    refine endK_some ⟨rfl, gx', ?_, ?_, ?_⟩
    · simp -implicitDefEqProofs only [go_sem, seval, ↓reduceIte]
      rfl
    · simp -implicitDefEqProofs only [go_sem, seval, ↓reduceIte]
      rfl
    · simp -implicitDefEqProofs only [go_sem, seval, ↓reduceIte]
  · -- false
    have h1' : ¬ n.op = 1 := by simpa using h1
    rw [if_neg h1'] at hres
    refine AW.seq_k fun K hK => AW.region (by kernel_rfl) ?_
    simp -implicitDefEqProofs only [go_sem, seval, ↓reduceIte]
    refine hK _ ?_
    clear hK K
    refine AW.condS (by simp -implicitDefEqProofs only [go_sem, seval, ↓reduceIte]; rfl) (fun h2 => ?_) (fun h2 => ?_)
    · -- true
      have h2' : n.op = 2 := by simpa using h2
      rw [if_pos h2'] at hres
      have hkv : ∀ kid ∈ n.kids.l, 0 ≤ kid ∧ kid < (i : Int) := by
        rcases hn with hn | ⟨_, _, _, hn⟩
        · omega
        · exact hn
      rw [hres] at hl ⊢
      refine AW.seq_k fun K hK => AW.region (by kernel_rfl) ?_
      simp -implicitDefEqProofs only [go_sem, seval, ↓reduceIte]
      refine hK _ ?_
      clear hK K
      refine AW.block ?_
      refine AW.for n.kids.l.length (fun k (x : Nat × List Int) => st [(0, .int .i64 i), (1, .view .any (encTree .any .any t)), (2, .ptr 4 g4 0), (3, .ptr 3 g3 0), (30, encSl .any 1 (V.int .i64) n.kids), (31, .int .i64 n.kids.l.length), (32, .int .i64 k)]
          [(4, walkO t g4 g3), (3, outO g3 x.1 x.2), (1018, arrO x.1 x.2)])
        (fun k x => x.2 ++ (n.kids.l.drop k).flatMap (fun q => readyAt t.l f q.toNat) = out ++ n.kids.l.flatMap fun q => readyAt t.l f q.toNat) 0 (gx, out) (Nat.zero_le _) (by simp)
        (Weak.st (by simp -implicitDefEqProofs only [go_sem, seval, ↓reduceIte]; try simp) (by simp -implicitDefEqProofs only [go_sem, seval, ↓reduceIte]; exact ⟨rfl, rfl⟩)) ?_
      rintro k ⟨gy, out2⟩ hk hR L3 hL3
      refine AW.seq_k fun K hK => AW.region (by kernel_rfl) ?_
      simp -implicitDefEqProofs only [go_sem, seval, ↓reduceIte]
      refine hK _ ?_
      clear hK K
      refine AW.seq_k fun K4 hK4 => ?_
      refine AW.condS (by simp -implicitDefEqProofs only [go_sem, seval, ↓reduceIte]; rfl) (fun h5 => ?_) (fun h5 => ?_)
      · -- true
        refine AW.skip ?_
        simp -implicitDefEqProofs only [go_sem, seval, ↓reduceIte]
        refine hK4 _ ?_
        have hk1 : k < n.kids.l.length := by simpa using h5
        have hgk := List.getElem?_eq_getElem hk1
        have hkm := hkv _ (List.getElem_mem hk1)
        rw [List.drop_eq_getElem_cons hk1, List.flatMap_cons] at hR
        generalize n.kids.l[k] = kv at hgk hkm hR
        obtain ⟨kn, rfl⟩ : ∃ kn : Nat, kv = kn := ⟨kv.toNat, by omega⟩
        have hl2 : out2.length + (readyAt t.l f kn).length < 1000000000 := by
          have := congrArg List.length hR
          simp only [List.length_append, Int.toNat_natCast] at this
          rw [← List.length_append] at hl
          rw [List.length_append] at hl
          omega
        refine AW.seq_k fun K6 hK6 => ?_
        refine AW.block ?_
        refine AW.seq_k fun K hK => AW.region (by kernel_rfl) ?_
        simp -implicitDefEqProofs only [go_sem, seval, ↓reduceIte, hgk]
        refine hK _ ?_
        clear hK K
        refine AW.region (by kernel_rfl) ?_
        simp -implicitDefEqProofs only [go_sem, seval, ↓reduceIte, walkO_K]
        refine WalkS.call hG (ih kn (by omega) (by omega)) (gx := gy) (out := out2) hl2 (by simp -implicitDefEqProofs only [go_sem, seval, ↓reduceIte]; try rfl) (by simp -implicitDefEqProofs only [go_sem, seval, ↓reduceIte]) (by simp -implicitDefEqProofs only [go_sem, seval, ↓reduceIte]) fun gx' => ?_
        simp -implicitDefEqProofs only [go_sem, seval, ↓reduceIte, sets]
        refine hK6 _ ?_
        refine AW.region (by kernel_rfl) ?_
        simp -implicitDefEqProofs only [go_sem, seval, ↓reduceIte]
        refine hL3 _ ⟨hk1, (gx', out2 ++ readyAt t.l f kn), by rw [List.append_assoc]; exact hR, Weak.st (by simp -implicitDefEqProofs only [go_sem, seval, ↓reduceIte]; exact congrArg _ (w64 (by omega) (by omega))) (by simp -implicitDefEqProofs only [go_sem, seval, ↓reduceIte])⟩
      · -- false
        have hk1 : k = n.kids.l.length := by simp at h5; omega
        have hR : out2 = out ++ n.kids.l.flatMap fun q => readyAt t.l f q.toNat := by rw [← hR, hk1]; simp
        refine AW.exit ?_
        simp -implicitDefEqProofs only [go_sem, seval, ↓reduceIte]
        refine endK_some ⟨rfl, gy, ?_, ?_, ?_⟩
        · simp -implicitDefEqProofs only [go_sem, seval, ↓reduceIte]
          rfl
        · simp -implicitDefEqProofs only [go_sem, seval, ↓reduceIte]
          rw [hR]; rfl
        · simp -implicitDefEqProofs only [go_sem, seval, ↓reduceIte]
          rw [hR]
    · -- false
      have h2' : ¬ n.op = 2 := by simpa using h2
      rw [if_neg h2'] at hres
      rw [hres] at hl ⊢
      refine AW.later ?_
      refine AW.region (by kernel_rfl) ?_
      simp -implicitDefEqProofs only [go_sem, seval, ↓reduceIte]
      intro g17
      refine app_grownC (f := V.int .i64) (l := out) (l2 := [(i : Int)]) (g := gx) (fun _ => rfl) rfl rfl rfl (by simp -implicitDefEqProofs only [go_sem, seval, ↓reduceIte]; try rfl) (roomOk_of (by omega) (by simp at hl ⊢; omega)) fun c2 g2 => ?_
      simp -implicitDefEqProofs only [go_sem, seval, ↓reduceIte]
      refine ⟨st [] [(4, walkO t g4 g3), (3, outO g3 g2 (out ++ [(i : Int)])), (1018, arrO g2 (out ++ [(i : Int)]))], Weak.stF (fun _ => false) trivial ?_, ?_⟩
      · simp only [allFzO_cons, allFzO_nil, and_true]
        exact ⟨FzO.keep rfl (by simp -implicitDefEqProofs only [go_sem, seval, ↓reduceIte]; try rfl), FzO.keep rfl (by simp -implicitDefEqProofs only [go_sem, seval, ↓reduceIte]; try rfl), FzO.grownC (c := c2) rfl (by simp -implicitDefEqProofs only [go_sem, seval, ↓reduceIte])⟩
      · simp -implicitDefEqProofs only [go_sem, seval, ↓reduceIte]
        exact endK_some ⟨rfl, g2, rfl, rfl, rfl⟩
end Go.Hs
end

section
namespace Go.Hs
open Go.Proofs
set_option maxRecDepth 10000
/- hopscotch/steps.Ready -/
theorem ready_spec (G : Nat → V) (hG : GOk G) (c1 c2 : Col) (t : Sl Nd) (ht : t.l.length < 1000000000) (hks : ∀ n ∈ t.l, n.kids.l.length < 1000000000) (hr : (readyP t.l).length < 1000000000) :
    Spec Try.prog G 17 [encTree c1 c2 t] hNone (fun v _ => v = encSl .any 1 (V.int .i64) (grownS (readyP t.l))) := by
  refine Spec.of_code' 0 22 [.tmp 2] Try.func17 rfl rfl rfl rfl fun X => ?_
  refine AW.seq_k fun K hK => AW.region (by kernel_rfl) ?_
  simp -implicitDefEqProofs only [go_sem, seval, ↓reduceIte]
  intro g1
  refine hK _ ?_
  clear hK K
  refine AW.seqJ (fun (_ : Unit) => st [(1, .ptr 1 g1 0)] [(1, .cells .new g1 0 [encSl c1 3 (encNd c2) t])]) (fun _ => ¬ (t.l.length = 0 ∨ rightP t.l = false)) (fun K1 hK1 => ?_) ?_
  · have bad : (t.l.length = 0 ∨ rightP t.l = false) → V.nils = encSl .any 1 (V.int .i64) (grownS (readyP t.l)) := by
      intro h
      rw [readyP, if_pos h]
      rfl
    by_cases h0 : t.l.length = 0
    · refine AW.seq_k fun K hK => AW.region (by kernel_rfl) ?_
      simp -implicitDefEqProofs only [go_sem, seval, ↓reduceIte, h0]
      refine hK _ ?_
      clear hK K
      refine AW.condS (by simp -implicitDefEqProofs only [go_sem, seval, ↓reduceIte]; rfl) (fun h2 => ?_) (fun h2 => ?_)
      · refine AW.seq_k fun K hK => AW.region (by kernel_rfl) ?_
        simp -implicitDefEqProofs only [go_sem, seval, ↓reduceIte]
        refine hK _ ?_
        clear hK K
        refine AW.ret ?_
        simp -implicitDefEqProofs only [go_sem, seval, ↓reduceIte]
        refine endK_some ?_
        exact bad (.inl h0)
      · simp at h2
    · have e0 : ((t.l.length : Int) == 0) = false := by simpa using h0
      refine AW.seq_k fun K hK => AW.region (by kernel_rfl) ?_
      simp -implicitDefEqProofs only [go_sem, seval, ↓reduceIte, e0]
      refine CallA.pure hG (by kernel_rfl) ?_
      simp -implicitDefEqProofs only [go_sem, seval, ↓reduceIte]
      refine (right_spec G hG _ _ t ht hks).mono ?_
      rintro _ _ rfl
      simp -implicitDefEqProofs only [go_sem, seval, ↓reduceIte]
      refine hK _ ?_
      clear hK K
      refine AW.condS (by simp -implicitDefEqProofs only [go_sem, seval, ↓reduceIte]; rfl) (fun h2 => ?_) (fun h2 => ?_)
      · refine AW.seq_k fun K hK => AW.region (by kernel_rfl) ?_
        simp -implicitDefEqProofs only [go_sem, seval, ↓reduceIte]
        refine hK _ ?_
        clear hK K
        refine AW.ret ?_
        simp -implicitDefEqProofs only [go_sem, seval, ↓reduceIte]
        refine endK_some ?_
        exact bad (.inr (by simpa using h2))
      · refine AW.skip ?_
        simp -implicitDefEqProofs only [go_sem, seval, ↓reduceIte]
        refine hK1 _ () ?_ (Weak.st (by simp -implicitDefEqProofs only [go_sem, seval, ↓reduceIte]) (by simp -implicitDefEqProofs only [go_sem, seval, ↓reduceIte]))
        rintro (h | h)
        · exact h0 h
        · rw [h] at h2; simp at h2
  · intro _ hgood
    have h0 : 0 < t.l.length := by omega
    have hrt : rightP t.l = true := by cases h : rightP t.l with | true => rfl | false => exact absurd (.inr h) hgood
    have hrd : readyP t.l = readyAt t.l t.l.length (t.l.length - 1) := by rw [readyP, if_neg hgood]
    refine AW.seq_k fun K hK => AW.region (by kernel_rfl) ?_
    simp -implicitDefEqProofs only [go_sem, seval, ↓reduceIte]
    intro g3
    refine hK _ ?_
    clear hK K
    refine AW.seq_k fun K hK => AW.region (by kernel_rfl) ?_
    simp -implicitDefEqProofs only [go_sem, seval, ↓reduceIte]
    intro g4
    refine hK _ ?_
    clear hK K
    refine AW.seq_k fun K hK => AW.region (by kernel_rfl) ?_
    simp -implicitDefEqProofs only [go_sem, seval, ↓reduceIte]
    refine hK _ ?_
    clear hK K
    refine AW.weak (Weak.stF (fun o => o == 1) (l := [(1, .view .new (encTree c1 c2 t)), (3, .ptr 3 g3 0), (4, .ptr 4 g4 0)])
      (m := [(4, .cells .any g4 0 [.func (.func 35) [] [.view .new (encTree c1 c2 t), .ptr 4 g4 0, .ptr 3 g3 0]]), (3, outO g3 0 [])]) ?_ ?_) ?_
    · simp -implicitDefEqProofs only [go_sem, seval, ↓reduceIte]
      exact ⟨Fz.ptr (v := encTree c1 c2 t) (fz := 0) rfl (by simp -implicitDefEqProofs only [go_sem, seval, ↓reduceIte]), Fz.same _, Fz.same _⟩
    · simp only [allFzO_cons, allFzO_nil, and_true]
      exact ⟨FzO.anyOf (c := .new) (fz := 0) (cs := [.func (.func 35) [] [.ptr 1 g1 0, .ptr 4 g4 0, .ptr 3 g3 0]]) rfl (by simp -implicitDefEqProofs only [go_sem, seval, ↓reduceIte]) ⟨Fz.func ⟨Fz.ptr (v := encTree c1 c2 t) (fz := 0) rfl (by simp -implicitDefEqProofs only [go_sem, seval, ↓reduceIte]), Fz.same _, Fz.same _, trivial⟩, trivial⟩, FzO.anyOf (c := .new) (fz := 0) (cs := [.nils]) rfl (by simp -implicitDefEqProofs only [go_sem, seval, ↓reduceIte]) ⟨Fz.same _, trivial⟩⟩
    refine AW.weak (Weak.stF (fun o => false) (l := [(1, .view .any (encTree .any .any t)), (3, .ptr 3 g3 0), (4, .ptr 4 g4 0)])
      (m := [(4, .cells .any g4 0 [walkF t g4 g3]), (3, outO g3 0 []), (1018, arrO 0 [])]) ?_ ?_) ?_
    · simp -implicitDefEqProofs only [go_sem, seval, ↓reduceIte]
      exact ⟨Fz.any (by simp -implicitDefEqProofs only [go_sem, seval, ↓reduceIte]), Fz.same _, Fz.same _⟩
    · simp only [allFzO_cons, allFzO_nil, and_true]
      exact ⟨FzO.anyOf (c := .any) (fz := 0) (cs := [.func (.func 35) [] [.view .new (encTree c1 c2 t), .ptr 4 g4 0, .ptr 3 g3 0]]) rfl (by simp -implicitDefEqProofs only [go_sem, seval, ↓reduceIte]) ⟨Fz.any (by simp -implicitDefEqProofs only [go_sem, seval, ↓reduceIte]; try rfl), trivial⟩, FzO.keep rfl (by simp -implicitDefEqProofs only [go_sem, seval, ↓reduceIte]), FzO.keep rfl (by simp -implicitDefEqProofs only [go_sem, seval, ↓reduceIte]; try rfl)⟩
    have hw : IntKind.i64.wrap ((t.l.length : Int) - 1) = ((t.l.length - 1 : Nat) : Int) := by rw [w64 (by omega) (by omega)]; omega
    refine AW.seq_k fun K hK => AW.region (by kernel_rfl) ?_
    simp -implicitDefEqProofs only [go_sem, seval, ↓reduceIte, walkO_K, hw]
    rw [hrd] at hr
    refine WalkS.call hG (walk_spec G hG t ht hks (rightP_ok hrt) g4 g3 t.l.length (t.l.length - 1) (by omega) (by omega)) (gx := 0) (out := []) (by simpa using hr) (by simp -implicitDefEqProofs only [go_sem, seval, ↓reduceIte]; try rfl) (by simp -implicitDefEqProofs only [go_sem, seval, ↓reduceIte]; try rfl) (by simp -implicitDefEqProofs only [go_sem, seval, ↓reduceIte]) fun gx' => ?_
    simp -implicitDefEqProofs only [go_sem, seval, ↓reduceIte, sets, List.nil_append]
    refine hK _ ?_
    clear hK K
    refine AW.weak (Weak.stF (fun o => o == 1018) (l := [(3, .ptr 3 g3 0)]) (m := [(3, .cells .any g3 0 [encSl .any 1 (V.int .i64) (grownS (readyAt t.l t.l.length (t.l.length - 1)))])]) ?_ ?_) ?_
    · simp -implicitDefEqProofs only [go_sem, seval, ↓reduceIte]
      exact Fz.same _
    · simp only [allFzO_cons, allFzO_nil, and_true]
      refine FzO.of (cs := [grown 1018 gx' 1 (readyAt t.l t.l.length (t.l.length - 1))]) rfl (by simp -implicitDefEqProofs only [go_sem, seval, ↓reduceIte]; try rfl) ⟨Fz.grownC (c := .any) rfl (by simp -implicitDefEqProofs only [go_sem, seval, ↓reduceIte]; try rfl) (fun _ => rfl), trivial⟩
    refine AW.seq_k fun K hK => AW.region (by kernel_rfl) ?_
    simp -implicitDefEqProofs only [go_sem, seval, ↓reduceIte]
    refine hK _ ?_
    clear hK K
    refine AW.ret ?_
    simp -implicitDefEqProofs only [go_sem, seval, ↓reduceIte]
    refine endK_some ?_
    rw [hrd]
end Go.Hs
end

section
namespace Go.Hs
open Go.Proofs
set_option maxRecDepth 10000
def takeAt (l : List Nd) (leaf : Int) (b : List Nd) : Nat → Nat → List Nd
  | 0, _ => []
  | f + 1, i => match l[i]? with
    | none => []
    | some n => if (i : Int) = leaf then b.map Nd.copy else if n.kids.l.length = 0 then leafN n.op n.pl
      else putS n.op (n.kids.l.map fun k => takeAt l leaf b f k.toNat)
def TakeOk (l : List Nd) (leaf : Int) (b : List Nd) : Nat → Nat → Prop
  | 0, _ => False
  | f + 1, i => ∃ n, l[i]? = some n ∧ ((i : Int) = leaf ∨ n.kids.l.length = 0 ∨
      ((∀ k ∈ n.kids.l, 0 ≤ k ∧ TakeOk l leaf b f k.toNat) ∧ PutOk n.op (grownS (n.kids.l.map fun k => grownS (takeAt l leaf b f k.toNat)))))
def anewF (t : Sl Nd) (leaf : Int) (b : Sl Nd) (g7 : Nat) : V := .func (.func 30) [] [.view .any (encTree .any .any t), .view .any (.int .i64 leaf), .view .any (encTree .any .any b), .ptr 7 g7 0]
def anewO (t : Sl Nd) (leaf : Int) (b : Sl Nd) (g7 : Nat) : AObj := .cells .any g7 0 [anewF t leaf b g7]
theorem anewO_K (t : Sl Nd) (leaf : Int) (b : Sl Nd) (g7 : Nat) : anewO t leaf b g7 = .cells .any g7 0 [.func (.func 30) [] [.view .any (encTree .any .any t), .view .any (.int .i64 leaf), .view .any (encTree .any .any b), .ptr 7 g7 0]] := rfl
def AnewS (G : Nat → V) (t : Sl Nd) (leaf : Int) (b : Sl Nd) (g7 : Nat) (i : Nat) (res : List Nd) : Prop :=
  Spec Try.prog G 30 (.int .i64 i :: [.view .any (encTree .any .any t), .view .any (.int .i64 leaf), .view .any (encTree .any .any b), .ptr 7 g7 0]) (sets hNone [(7, anewO t leaf b g7)]) (fun v H' => v = encTree .new .new (grownS res) ∧ H' 7 = anewO t leaf b g7)
theorem AnewS.call {G : Nat → V} (hG : GOk G) {t : Sl Nd} {leaf : Int} {b : Sl Nd} {g7 i : Nat} {res : List Nd} (h : AnewS G t leaf b g7 i res) {H : Heap} {K : V → Heap → Prop} (h7 : H 7 = anewO t leaf b g7)
    (hk : K (encTree .new .new (grownS res)) (sets H [(7, anewO t leaf b g7)])) : CallA Try.prog G 30 (.int .i64 i :: [.view .any (encTree .any .any t), .view .any (.int .i64 leaf), .view .any (encTree .any .any b), .ptr 7 g7 0]) H K := by
  have e7 : ∀ f : Col → Col, f .any = .any → (anewO t leaf b g7).recol f = anewO t leaf b g7 := by
    intro f hf
    simp only [anewO_K, recol_cells, List.map_cons, List.map_nil, recol_func, recol_view, recol_ptr, recol_int, hf, encTree, recol_agg, recol_nds]
  refine CallA.hand hG [(7, anewO t leaf b g7)] (by kernel_rfl) ?_ ?_
  · intro p hp
    simp only [List.mem_cons, List.not_mem_nil, or_false] at hp
    subst hp
    rw [h7, e7 _ rfl]
  · have hargs : (V.int .i64 i :: [.view .any (encTree .any .any t), .view .any (.int .i64 leaf), .view .any (encTree .any .any b), .ptr 7 g7 0]).map (V.recol Col.ent) = .int .i64 i :: [.view .any (encTree .any .any t), .view .any (.int .i64 leaf), .view .any (encTree .any .any b), .ptr 7 g7 0] := by
      simp only [List.map_cons, List.map_nil, recol_view, recol_ptr, recol_int, ent_any, encTree, recol_agg, recol_nds]
    rw [hargs]
    refine h.mono ?_
    rintro _ H' ⟨rfl, q7⟩
    simp only [List.map_cons, List.map_nil, q7, e7 _ bk_any]
    have hv : (encTree .new .new (grownS res)).recol Col.bk = encTree .new .new (grownS res) := by simp only [encTree, recol_agg, List.map_cons, List.map_nil, recol_nds, bk_new]
    rw [hv]
    exact hk
/- hopscotch/steps.Take$1 -/
theorem anew_spec (G : Nat → V) (hG : GOk G) (t : Sl Nd) (ht : t.l.length < 1000000000) (hks : ∀ n ∈ t.l, n.kids.l.length < 1000000000) (leaf : Int) (b : Sl Nd) (hb : b.l.length < 1000000000) (hbk : ∀ n ∈ b.l, n.kids.l.length < 1000000000) (g7 : Nat) :
    ∀ (f i : Nat), TakeOk t.l leaf b.l f i → AnewS G t leaf b g7 i (takeAt t.l leaf b.l f i) := by
  intro f
  induction f with
  | zero => intro i h; exact h.elim
  | succ f ih =>
  intro i hok
  obtain ⟨n, hgi, hok⟩ := hok
  have hnm := List.mem_of_getElem? hgi
  have hkl := hks n hnm
  have hres : takeAt t.l leaf b.l (f + 1) i = if (i : Int) = leaf then b.l.map Nd.copy else if n.kids.l.length = 0 then leafN n.op n.pl
      else putS n.op (n.kids.l.map fun k => takeAt t.l leaf b.l f k.toNat) := by rw [takeAt, hgi]
  have hit : i < t.l.length := by rw [List.getElem?_eq_some_iff] at hgi; exact hgi.1
  refine Spec.of_code' 1000 50 [ResultVar.cell 6 24] Try.func30 rfl rfl rfl rfl fun X => ?_
  simp only [sets, anewO_K]
  refine AW.seq_k fun K hK => AW.region (by kernel_rfl) ?_
  simp -implicitDefEqProofs only [go_sem, seval, ↓reduceIte]
  intro g6
  refine hK _ ?_
  clear hK K
  refine AW.seq_k fun K hK => AW.region (by kernel_rfl) ?_
  simp -implicitDefEqProofs only [go_sem, seval, ↓reduceIte, hgi]
  intro gn
  refine hK _ ?_
  clear hK K
  refine AW.seq_k fun K1 hK1 => ?_
  refine AW.block ?_
  refine AW.seq_k fun K hK => AW.region (by kernel_rfl) ?_
  simp -implicitDefEqProofs only [go_sem, seval, ↓reduceIte]
  refine hK _ ?_
  clear hK K
  refine AW.condS (by simp -implicitDefEqProofs only [go_sem, seval, ↓reduceIte]; rfl) (fun h2 => ?_) (fun h2 => ?_)
  · -- true
    have h2' : (i : Int) = leaf := by simpa using h2
    rw [if_pos h2'] at hres
    refine AW.seq_k fun K hK => AW.region (by kernel_rfl) ?_
    simp -implicitDefEqProofs only [go_sem, seval, ↓reduceIte]
    refine CallA.pure hG (by kernel_rfl) ?_
    simp -implicitDefEqProofs only [go_sem, seval, ↓reduceIte]
    refine (copied_spec G hG _ _ b hb hbk).mono ?_
    rintro _ _ rfl
    simp -implicitDefEqProofs only [go_sem, seval, ↓reduceIte]
    refine hK _ ?_
    clear hK K
    refine AW.ret ?_
    simp -implicitDefEqProofs only [go_sem, seval, ↓reduceIte]
    refine endK_some ?_
    exact ⟨by rw [hres], by simp -implicitDefEqProofs only [go_sem, seval, ↓reduceIte]⟩
  · -- false
    have h2' : ¬ (i : Int) = leaf := by simpa using h2
    rw [if_neg h2'] at hres
    refine AW.seq_k fun K hK => AW.region (by kernel_rfl) ?_
    simp -implicitDefEqProofs only [go_sem, seval, ↓reduceIte]
    refine hK _ ?_
    clear hK K
    refine AW.condS (by simp -implicitDefEqProofs only [go_sem, seval, ↓reduceIte]; rfl) (fun h3 => ?_) (fun h3 => ?_)
    · -- true
      have h3' : n.kids.l.length = 0 := by simp at h3; simp [h3]
      rw [if_pos h3'] at hres
      refine AW.seq_k fun K hK => AW.region (by kernel_rfl) ?_
      simp -implicitDefEqProofs only [go_sem, seval, ↓reduceIte]
      refine CallA.pure hG (by kernel_rfl) ?_
      simp -implicitDefEqProofs only [go_sem, seval, ↓reduceIte]
      refine (leaf_spec G hG n.op n.pl).mono ?_
      rintro _ _ rfl
      simp -implicitDefEqProofs only [go_sem, seval, ↓reduceIte]
      refine hK _ ?_
      clear hK K
      refine AW.ret ?_
      simp -implicitDefEqProofs only [go_sem, seval, ↓reduceIte]
      refine endK_some ?_
      exact ⟨by rw [hres], by simp -implicitDefEqProofs only [go_sem, seval, ↓reduceIte]⟩
    · -- false
      have h3' : ¬ n.kids.l.length = 0 := by simp at h3; simp [h3]
      rw [if_neg h3'] at hres
      obtain ⟨hkid, hput⟩ := (hok.resolve_left h2').resolve_left h3'
      refine AW.skip ?_
      simp -implicitDefEqProofs only [go_sem, seval, ↓reduceIte]
      refine hK1 _ ?_
      refine AW.seq_k fun K hK => AW.region (by kernel_rfl) ?_
      simp -implicitDefEqProofs only [go_sem, seval, ↓reduceIte]
      refine hK _ ?_
      clear hK K
      refine AW.seq_k fun K4 hK4 => ?_
      refine AW.seq_k fun K hK => AW.region (by kernel_rfl) ?_
      simp -implicitDefEqProofs only [go_sem, seval, ↓reduceIte]
      refine hK _ ?_
      clear hK K
      refine AW.block ?_
      refine AW.for n.kids.l.length (fun k (x : Nat × List (Sl Nd)) => st [(1, .view .any (encTree .any .any t)), (2, .view .any (.int .i64 leaf)), (3, .view .any (encTree .any .any b)), (4, .ptr 7 g7 0), (6, .ptr 1006 g6 0), (7, .ptr 1007 gn 0), (8, grown 1044 x.1 1 x.2), (33, encSl .any 1 (V.int .i64) n.kids), (34, .int .i64 n.kids.l.length), (35, .int .i64 k)]
          [(7, anewO t leaf b g7), (1006, .cells .new g6 0 [.nils]), (1007, .cells .new gn 0 [.int .u8 n.op, .int .i64 n.pl, encSl .any 1 (V.int .i64) n.kids]), (1044, grownO x.1 (encTree .new .new) x.2)])
        (fun k x => x.2 = (n.kids.l.take k).map fun q => grownS (takeAt t.l leaf b.l f q.toNat)) 0 (0, []) (Nat.zero_le _) (by simp)
        (Weak.st (by simp -implicitDefEqProofs only [go_sem, seval, ↓reduceIte]; simp [grown]) (by simp -implicitDefEqProofs only [go_sem, seval, ↓reduceIte]; exact ⟨rfl, rfl⟩)) ?_
      rintro k ⟨gx, outs⟩ hk hR L5 hL5
      have hR : outs = (n.kids.l.take k).map fun q => grownS (takeAt t.l leaf b.l f q.toNat) := hR
      have hol : outs.length = k := by rw [hR]; simp; omega
      refine AW.seq_k fun K hK => AW.region (by kernel_rfl) ?_
      simp -implicitDefEqProofs only [go_sem, seval, ↓reduceIte]
      refine hK _ ?_
      clear hK K
      refine AW.seq_k fun K6 hK6 => ?_
      refine AW.condS (by simp -implicitDefEqProofs only [go_sem, seval, ↓reduceIte]; rfl) (fun h7 => ?_) (fun h7 => ?_)
      · -- true
        refine AW.skip ?_
        simp -implicitDefEqProofs only [go_sem, seval, ↓reduceIte]
        refine hK6 _ ?_
        have hk1 : k < n.kids.l.length := by simpa using h7
        have hgk := List.getElem?_eq_getElem hk1
        have hkm := hkid _ (List.getElem_mem hk1)
        generalize hkd : n.kids.l[k] = kv at hgk hkm
        obtain ⟨hk0, hkt⟩ := hkm
        obtain ⟨kn, rfl⟩ : ∃ kn : Nat, kv = kn := ⟨kv.toNat, by omega⟩
        refine AW.seq_k fun K8 hK8 => ?_
        refine AW.block ?_
        refine AW.seq_k fun K hK => AW.region (by kernel_rfl) ?_
        simp -implicitDefEqProofs only [go_sem, seval, ↓reduceIte, hgk]
        refine hK _ ?_
        clear hK K
        refine AW.region (by kernel_rfl) ?_
        simp -implicitDefEqProofs only [go_sem, seval, ↓reduceIte, anewO_K]
        refine AnewS.call hG (ih kn hkt) (by simp -implicitDefEqProofs only [go_sem, seval, ↓reduceIte]; try rfl) ?_
        simp -implicitDefEqProofs only [go_sem, seval, ↓reduceIte, sets]
        intro g43
        refine app_grown (f := encTree .new .new) (l := outs) (l2 := [grownS (takeAt t.l leaf b.l f kn)]) (g := gx) (fun _ => rfl) rfl rfl (by rfl) (by simp -implicitDefEqProofs only [go_sem, seval, ↓reduceIte]) (roomOk_of (by omega) (by simp; omega)) fun g44 => ?_
        simp -implicitDefEqProofs only [go_sem, seval, ↓reduceIte]
        refine hK8 _ ?_
        refine AW.region (by kernel_rfl) ?_
        simp -implicitDefEqProofs only [go_sem, seval, ↓reduceIte]
        refine hL5 _ ⟨hk1, (g44, outs ++ [grownS (takeAt t.l leaf b.l f kn)]), ?_, Weak.st (by simp -implicitDefEqProofs only [go_sem, seval, ↓reduceIte]; exact congrArg _ (w64 (by omega) (by omega))) (by simp -implicitDefEqProofs only [go_sem, seval, ↓reduceIte])⟩
        rw [List.take_succ_eq_append_getElem hk1, List.map_append, ← hR, hkd]
        rfl
      · -- false
        refine AW.exit ?_
        simp -implicitDefEqProofs only [go_sem, seval, ↓reduceIte]
        refine hK4 _ ?_
        have hk1 : k = n.kids.l.length := by simp at h7; omega
        have hR : outs = n.kids.l.map fun q => grownS (takeAt t.l leaf b.l f q.toNat) := by rw [hR, hk1, List.take_length]
        refine AW.weak (Weak.stF (fun o => o == 1044) (l := [(6, .ptr 1006 g6 0), (7, .ptr 1007 gn 0), (8, encSl .new 1 (encTree .new .new) (grownS outs))]) (m := [(7, anewO t leaf b g7), (1006, .cells .new g6 0 [.nils]), (1007, .cells .new gn 0 [.int .u8 n.op, .int .i64 n.pl, encSl .any 1 (V.int .i64) n.kids])]) ?_ ?_) ?_
        · simp -implicitDefEqProofs only [go_sem, seval, ↓reduceIte]
          exact ⟨Fz.same _, Fz.same _, Fz.grown rfl rfl (fun _ => rfl)⟩
        · simp only [allFzO_cons, allFzO_nil, and_true]
          exact ⟨FzO.keep rfl rfl, FzO.keep rfl rfl, FzO.keep rfl rfl⟩
        refine AW.seq_k fun K hK => AW.region (by kernel_rfl) ?_
        simp -implicitDefEqProofs only [go_sem, seval, ↓reduceIte]
        refine CallA.pure hG (by kernel_rfl) ?_
        simp -implicitDefEqProofs only [go_sem, seval, ↓reduceIte]
        refine (put_spec G hG _ _ _ n.op (grownS outs) (by rw [hR]; exact hput)).mono ?_
        rintro _ _ rfl
        simp -implicitDefEqProofs only [go_sem, seval, ↓reduceIte]
        refine hK _ ?_
        clear hK K
        refine AW.ret ?_
        simp -implicitDefEqProofs only [go_sem, seval, ↓reduceIte]
        refine endK_some ?_
        refine ⟨?_, by simp -implicitDefEqProofs only [go_sem, seval, ↓reduceIte]; try rfl⟩
        have e : outs.map Sl.l = n.kids.l.map fun k => takeAt t.l leaf b.l f k.toNat := by
          rw [hR, List.map_map]
          exact List.map_congr_left fun q _ => grownS_l _
        rw [hres, e]
end Go.Hs
end

section
/- Rows, leaves that are ready, trees put together, a tree in place of a leaf. -/
namespace Go.Hs
def shV (b : Nat) (x : VN) : VN := (x.1, x.2.1, x.2.2.map fun y => y + (b : Int))
theorem map_vkids (b : Nat) : ∀ (k : List T) (c : Nat), (T.vkids k c).map (fun y => y + (b : Int)) = T.vkids k (b + c)
  | [], _ => rfl
  | p :: r, c => by
    rw [T.vkids, T.vkids, List.map_cons, map_vkids b r, Nat.add_assoc]
    congr 1
    omega
mutual
theorem shV_vrow (b : Nat) : ∀ (t : T) (c : Nat), (t.vrow c).map (shV b) = t.vrow (b + c)
  | .mk op pl k, c => by
    rw [T.vrow, T.vrow, List.map_append, shV_vrows b k c]
    simp only [List.map_cons, List.map_nil, shV, map_vkids]
theorem shV_vrows (b : Nat) : ∀ (k : List T) (c : Nat), (T.vrows k c).map (shV b) = T.vrows k (b + c)
  | [], _ => rfl
  | p :: r, c => by rw [T.vrows, T.vrows, List.map_append, shV_vrow b p, shV_vrows b r, Nat.add_assoc]
end
theorem T.good_op {t : T} (h : t.good) : t.op ≠ 0 := by
  obtain ⟨op, pl, k⟩ := t
  rw [T.good] at h
  show op ≠ 0
  omega
theorem T.good_u8 {t : T} (h : t.good) : 1 ≤ t.op ∧ t.op ≤ 7 := by
  obtain ⟨op, pl, k⟩ := t
  rw [T.good] at h
  show 1 ≤ op ∧ op ≤ 7
  omega
mutual
theorem T.good_full : ∀ t : T, t.good → t.full = true ∧ t.size = t.sz
  | .mk op pl k, h => by
    have h0 : op ≠ 0 := T.good_op h
    rw [T.good] at h
    rw [T.full, T.size, T.sz, if_neg h0]
    rcases h with ⟨_, _, rfl⟩ | ⟨_, _, _, h⟩
    · exact ⟨by simp [T.fulls, h0], rfl⟩
    · have := T.goods_full op k h
      exact ⟨by simp [this.1, h0], by rw [this.2]; omega⟩
theorem T.goods_full (op : Int) : ∀ k : List T, T.goods op k → T.fulls k = true ∧ T.sizes k = T.szs k
  | [], _ => ⟨rfl, rfl⟩
  | p :: r, h => by
    rw [T.goods] at h
    have h1 := T.good_full p h.1
    have h2 := T.goods_full op r h.2.2
    rw [T.fulls, T.sizes, T.szs, h1.1, h1.2, h2.1, h2.2]
    exact ⟨rfl, rfl⟩
end
/-! ### Rows, as the reference writes them -/
theorem shift_v (b : Nat) (n : Nd) : (n.shift b).v = shV b n.v := by simp [Nd.shift, Nd.v, shV, grownS_l]
theorem shift_map (b : Nat) (l : List Nd) : (l.map (Nd.shift b)).map Nd.v = (l.map Nd.v).map (shV b) := by
  rw [List.map_map, List.map_map]
  exact List.map_congr_left fun n _ => shift_v b n
mutual
theorem T.row_v : ∀ t : T, t.good → t.row.map Nd.v = t.vrow 0 ∧ t.row.length = t.sz
  | .mk op pl k, h => by
    have hf := T.good_full _ h
    have h0 : op ≠ 0 := T.good_op h
    have hl := T.row_len _ hf.1
    rw [hf.2] at hl
    refine ⟨?_, hl⟩
    rw [T.good] at h
    rw [T.row, if_neg h0, List.map_append, T.vrow]
    rcases h with ⟨_, _, rfl⟩ | ⟨_, _, _, h⟩
    · simp [T.rows, T.vrows, T.rowKids, T.vkids, Nd.v, grownS_l]
    · obtain ⟨h1, h2⟩ := T.rows_v op k 0 h
      rw [h1]
      simp [Nd.v, grownS_l, h2]
theorem T.rows_v (op : Int) : ∀ (k : List T) (c : Nat), T.goods op k → (T.rows k c).map Nd.v = T.vrows k c ∧ T.rowKids k c = T.vkids k c
  | [], _, _ => ⟨rfl, rfl⟩
  | p :: r, c, h => by
    rw [T.goods] at h
    obtain ⟨h1, h2⟩ := T.row_v p h.1
    obtain ⟨h3, h4⟩ := T.rows_v op r (c + p.sz) h.2.2
    rw [T.rows, T.rowKids, T.vrows, T.vkids, h2, h4, List.map_append, shift_map, h1, shV_vrow, h3, Nat.add_zero]
    exact ⟨rfl, rfl⟩
end
/-! ### A row is a tree's, or nothing's -/
def RowIs (r : List Nd) (t : T) : Prop := (t = .zero ∧ r = []) ∨ (t.good ∧ r.map Nd.v = t.vrow 0)
theorem RowIs.of_right {l : List Nd} (h : rightP l = true) : ∃ t, RowIs l t := by
  rcases (rightP_iff l).1 h with rfl | ⟨t, h1, h2⟩
  · exact ⟨.zero, .inl ⟨rfl, rfl⟩⟩
  · exact ⟨t, .inr ⟨h1, h2⟩⟩
theorem RowIs.right {l : List Nd} {t : T} (h : RowIs l t) : rightP l = true := by
  rw [rightP_iff]
  rcases h with ⟨_, h⟩ | ⟨h1, h2⟩
  · exact .inl h
  · exact .inr ⟨t, h1, h2⟩
theorem RowIs.of_v {l m : List Nd} {t : T} (h : RowIs l t) (he : m.map Nd.v = l.map Nd.v) : RowIs m t := by
  rcases h with ⟨h1, h2⟩ | ⟨h1, h2⟩
  · exact .inl ⟨h1, by rw [h2] at he; simpa using he⟩
  · exact .inr ⟨h1, he.trans h2⟩
theorem RowIs.row_v {l : List Nd} {t : T} (h : RowIs l t) : l.map Nd.v = t.row.map Nd.v := by
  rcases h with ⟨rfl, rfl⟩ | ⟨h1, h2⟩
  · rfl
  · rw [h2, (T.row_v t h1).1]
theorem RowIs.ofP {l : List Nd} {t : T} (h : RowIs l t) : (Hs.ofP l).1.v = t := by
  rcases h with ⟨rfl, rfl⟩ | ⟨h1, h2⟩
  · show Pt.zero.v = _
    rw [Pt.v_K]; rfl
  · exact ofP_tree h1 h2
theorem RowIs.len {l : List Nd} {t : T} (h : RowIs l t) : l.length ≤ t.sz ∧ (t.good → l.length = t.sz) := by
  rcases h with ⟨rfl, rfl⟩ | ⟨h1, h2⟩
  · exact ⟨by simp, fun h => absurd rfl (T.good_op h)⟩
  · have : l.length = t.sz := by rw [← List.length_map Nd.v, h2, T.vrow_len]
    exact ⟨by omega, fun _ => this⟩
mutual
theorem T.vrow_kids : ∀ (t : T) (b : Nat), ∀ x ∈ t.vrow b, x.2.2.length ≤ t.sz ∧ ∀ y ∈ x.2.2, (b : Int) ≤ y ∧ y < ((b + t.sz : Nat) : Int)
  | .mk op pl k, b, x, hx => by
    rw [T.vrow, List.mem_append, List.mem_singleton] at hx
    rw [T.sz]
    rcases hx with hx | rfl
    · have := T.vrows_kids k b x hx
      exact ⟨by omega, fun y hy => by have := this.2 y hy; omega⟩
    · refine ⟨by simp only [T.vkids_len]; have := T.szs_len k; omega, fun y hy => ?_⟩
      have := T.vkids_range k b y hy
      omega
theorem T.vrows_kids : ∀ (k : List T) (b : Nat), ∀ x ∈ T.vrows k b, x.2.2.length ≤ T.szs k ∧ ∀ y ∈ x.2.2, (b : Int) ≤ y ∧ y < ((b + T.szs k : Nat) : Int)
  | [], _, x, hx => by simp [T.vrows] at hx
  | p :: r, b, x, hx => by
    rw [T.vrows, List.mem_append] at hx
    rw [T.szs]
    rcases hx with hx | hx
    · have := T.vrow_kids p b x hx
      exact ⟨by omega, fun y hy => by have := this.2 y hy; omega⟩
    · have := T.vrows_kids r _ x hx
      exact ⟨by omega, fun y hy => by have := this.2 y hy; omega⟩
theorem T.szs_len : ∀ k : List T, k.length ≤ T.szs k
  | [] => by simp
  | p :: r => by rw [List.length_cons, T.szs]; have := p.sz_pos; have := T.szs_len r; omega
end
theorem RowIs.kids {l : List Nd} {t : T} (h : RowIs l t) : ∀ n ∈ l, n.kids.l.length ≤ t.sz ∧ ∀ y ∈ n.kids.l, 0 ≤ y ∧ y < (t.sz : Int) := by
  intro n hn
  rcases h with ⟨rfl, rfl⟩ | ⟨h1, h2⟩
  · cases hn
  · have := T.vrow_kids t 0 n.v (by rw [← h2]; exact List.mem_map_of_mem hn)
    simpa [Nd.v] using this
/-! ### Leaves that are ready -/
theorem readyAt_eq {l : List Nd} {f i : Nat} {n : Nd} (hn : l[i]? = some n) : readyAt l (f + 1) i =
    if n.op = 1 then (match n.kids.l with | [] => [] | k :: _ => readyAt l f k.toNat) else if n.op = 2 then n.kids.l.flatMap fun k => readyAt l f k.toNat else [(i : Int)] := by
  rw [readyAt, hn]
  try rfl
theorem readys_none : ∀ (k : List T) (b : Nat), T.readys 1 false k b = []
  | [], _ => rfl
  | p :: r, b => by rw [T.readys, readys_none r]; simp
mutual
theorem ready_tree {l : List Nd} : ∀ (t : T) (b f : Nat), t.good → Seg l b (t.vrow b) → b + t.sz ≤ f → readyAt l f (b + t.sz - 1) = t.ready b
  | .mk op pl k, b, f, hg, hs, hf => by
    obtain ⟨n, hn, e1', e2', e3'⟩ := hs.root
    have e1 : n.op = op := e1'
    have e3 : n.kids.l = T.vkids k b := e3'
    clear e1' e2' e3'
    rw [T.vrow, Seg.app] at hs
    rw [T.sz] at hn hf ⊢
    rw [show b + (T.szs k + 1) - 1 = b + T.szs k by omega] at hn ⊢
    obtain ⟨f, rfl⟩ : ∃ f', f = f' + 1 := ⟨f - 1, by omega⟩
    rw [readyAt_eq hn, T.ready, e1, e3]
    rw [T.good] at hg
    rcases hg with ⟨h1, h2, rfl⟩ | ⟨h1, rfl, h2, h3⟩
    · rw [if_neg (by omega), if_neg (by omega), if_pos h1]
      simp [T.szs]
    · rw [if_neg (show ¬ op ≥ 3 by omega)]
      rcases h1 with rfl | rfl
      · match k, h2, h3, hs, hf with
        | p :: r, _, h3, hs, hf =>
          rw [T.goods] at h3
          rw [T.vrows, Seg.app] at hs
          rw [T.szs] at hf
          have hp := p.sz_pos
          have := ready_tree p b f h3.1 hs.1.1 (by omega)
          rw [if_pos rfl, T.vkids, T.readys, readys_none, List.append_nil, if_pos (.inr rfl), ← this]
          simp only
          congr 1
          omega
      · rw [if_neg (by omega), if_pos rfl]
        exact ready_list k b f true h3 hs.1 (by omega)
theorem ready_list {l : List Nd} : ∀ (k : List T) (b f : Nat) (first : Bool), T.goods 2 k → Seg l b (T.vrows k b) → b + T.szs k ≤ f → (T.vkids k b).flatMap (fun x => readyAt l f x.toNat) = T.readys 2 first k b
  | [], _, _, _, _, _, _ => rfl
  | p :: r, b, f, first, hg, hs, hf => by
    rw [T.goods] at hg
    rw [T.vrows, Seg.app, T.vrow_len] at hs
    rw [T.szs] at hf
    have hp := p.sz_pos
    rw [T.vkids, List.flatMap_cons, T.readys, if_pos (.inl rfl), (T.good_full p hg.1).2, ready_list r (b + p.sz) f false hg.2.2 hs.2 (by omega), ← ready_tree p b f hg.1 hs.1 (by omega)]
    congr 2
    omega
end
theorem RowIs.ready {l : List Nd} {t : T} (h : RowIs l t) : readyP l = if t.op = 0 then [] else t.ready 0 := by
  have hr := h.right
  rcases h with ⟨rfl, rfl⟩ | ⟨h1, h2⟩
  · rfl
  · have hl : l.length = t.sz := by rw [← List.length_map Nd.v, h2, T.vrow_len]
    have hp := t.sz_pos
    have hs : Seg l 0 (t.vrow 0) := by intro j x hj; rw [h2, Nat.zero_add, hj]
    rw [readyP, if_neg (by rw [hr]; simp; intro e; rw [e] at hl; simp at hl; omega), if_neg (T.good_op h1), ← ready_tree t 0 l.length h1 hs (by omega), Nat.zero_add, hl]
end Go.Hs
end
