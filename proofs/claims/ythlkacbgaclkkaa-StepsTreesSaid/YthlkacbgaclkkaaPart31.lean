/- Part 31 of the proof of a statement of seat Ythlkacbgaclkkaa: HsTreeTake HsF39 HsF13 HsF27 HsF21 HsF12 HsF38 HsTreeAll HsF07 HsF06 HsTreeSums HsF08 HsF10 HsF11 HsF03 HsF19 HsF05. -/
import Derived.Test.YthlkacbgaclkkaaPart30
import Derived.Test.YthlkacbgaclkkaaPart19
import Derived.Test.YthlkacbgaclkkaaPart25
set_option linter.unusedSimpArgs false
set_option linter.unusedVariables false
section
/- Trees put together; a tree in place of a leaf. -/
namespace Go.Hs
theorem moved_v (b : Nat) (n : Nd) : (movedN b n).v = shV b n.v := by simp [movedN, Nd.v, shV, Sl.l]
theorem moved_map (b : Nat) (l : List Nd) : (l.map (movedN b)).map Nd.v = (l.map Nd.v).map (shV b) := by
  rw [List.map_map, List.map_map]
  exact List.map_congr_left fun n _ => moved_v b n
def RowsIs : List (List Nd) → List T → Prop
  | [], [] => True
  | r :: L, t :: Ts => RowIs r t ∧ RowsIs L Ts
  | _, _ => False
theorem put_one {op : Int} (hop : op = 1 ∨ op = 2) {r : List Nd} {t : T} (h : RowIs r t) :
    (bodyN op r).map Nd.v = T.vrows (putKids op t) 0 ∧ ownK op r = T.vkids (putKids op t) 0 ∧ T.goods op (putKids op t) := by
  rcases h with ⟨rfl, rfl⟩ | ⟨hg, hv⟩
  · have : putKids op T.zero = [] := by
      unfold putKids
      rw [if_neg (by show ¬ (0 : Int) = op; omega)]
      rfl
    rw [this]
    exact ⟨rfl, rfl, trivial⟩
  · have hs : Seg r 0 (t.vrow 0) := by intro j x hj; rw [hv, Nat.zero_add, hj]
    have hl : r.length = t.sz := by rw [← List.length_map Nd.v, hv, T.vrow_len]
    obtain ⟨n, hn, e1, e2, e3⟩ := hs.root
    rw [Nat.zero_add, ← hl] at hn
    unfold bodyN ownK
    rw [hn]
    simp only
    rw [e1]
    unfold putKids
    by_cases ho : t.op = op
    · rw [if_pos ho, if_pos ho, if_pos ho]
      obtain ⟨op', pl, k⟩ := t
      have ho : op' = op := ho
      subst ho
      rw [T.good] at hg
      have h3 : T.goods op' k := by
        rcases hg with hg | hg
        · omega
        · exact hg.2.2.2
      refine ⟨?_, e3, h3⟩
      rw [List.map_take, hv, T.vrow, List.take_append_of_le_length, List.take_of_length_le]
      · rfl
      · rw [T.vrows_len, hl, T.sz]; omega
      · rw [T.vrows_len, hl, T.sz]; omega
    · rw [if_neg ho, if_neg ho, if_neg ho, if_neg (T.good_op hg)]
      refine ⟨by simp [T.vrows, hv], ?_, ⟨hg, ho, trivial⟩⟩
      have := t.sz_pos
      simp only [T.vkids, hl]
      congr 1
      omega
theorem goods_app (op : Int) (k m : List T) : T.goods op (k ++ m) ↔ T.goods op k ∧ T.goods op m := by
  simp only [T.goods_iff, List.mem_append]
  constructor
  · exact fun h => ⟨fun t ht => h t (.inl ht), fun t ht => h t (.inr ht)⟩
  · rintro ⟨h1, h2⟩ t (ht | ht)
    · exact h1 t ht
    · exact h2 t ht
theorem put_rows {op : Int} (hop : op = 1 ∨ op = 2) : ∀ (L : List (List Nd)) (Ts : List T) (b : Nat), RowsIs L Ts →
    (putRows op L b).map Nd.v = T.vrows (Ts.flatMap (putKids op)) b ∧ putKd op L b = T.vkids (Ts.flatMap (putKids op)) b ∧ T.goods op (Ts.flatMap (putKids op))
  | [], [], _, _ => ⟨rfl, rfl, trivial⟩
  | [], _ :: _, _, h => h.elim
  | _ :: _, [], _, h => h.elim
  | r :: L, t :: Ts, b, h => by
    obtain ⟨h1, h2, h3⟩ := put_one hop h.1
    have hl : (bodyN op r).length = T.szs (putKids op t) := by rw [← List.length_map Nd.v, h1, T.vrows_len]
    obtain ⟨h4, h5, h6⟩ := put_rows hop L Ts (b + T.szs (putKids op t)) h.2
    rw [putRows, putKd, List.flatMap_cons, T.vrows_app, T.vkids_app, List.map_append, moved_map, h1, shV_vrows, hl, h4, h2, map_vkids, h5, goods_app]
    exact ⟨rfl, rfl, h3, h6⟩
theorem zero_vrow_ne (t : T) : t.good → t ≠ .zero := by
  rintro h rfl
  exact T.good_op h rfl
/-- **Put is put.** -/
theorem put_law {op : Int} (hop : op = 1 ∨ op = 2) {L : List (List Nd)} {Ts : List T} (h : RowsIs L Ts) : RowIs (putS op L) (T.put op Ts) := by
  obtain ⟨h1, h2, h3⟩ := put_rows hop L Ts 0 h
  unfold putS T.put
  rw [h2, T.vkids_len]
  generalize Ts.flatMap (putKids op) = ks at h1 h2 h3
  match ks, h1, h3 with
  | [], h1, _ =>
    refine .inl ⟨rfl, ?_⟩
    have h1 : (putRows op L 0).map Nd.v = [] := h1
    rw [List.map_eq_nil_iff] at h1
    rw [h1]
    rfl
  | [x], h1, h3 =>
    refine .inr ⟨h3.1, ?_⟩
    rw [if_neg (by simp), List.append_nil, h1]
    simp [T.vrows]
  | x :: y :: r, h1, h3 =>
    refine .inr ⟨.inr ⟨hop, rfl, by simp, h3⟩, ?_⟩
    rw [if_pos (by simp), List.map_append, h1, T.vrow]
    simp [Nd.v, grownS_l]
def szSum : List T → Nat
  | [] => 0
  | t :: r => t.sz + szSum r
theorem szs_eq : ∀ k : List T, szSum k = T.szs k
  | [] => rfl
  | p :: r => by rw [szSum, T.szs, szs_eq r]
theorem put_szs (op : Int) : ∀ Ts : List T, T.szs (Ts.flatMap (putKids op)) ≤ T.szs Ts
  | [] => by simp [T.szs]
  | t :: r => by
    rw [List.flatMap_cons, T.szs_app, T.szs]
    have h1 := put_szs op r
    have h2 : T.szs (putKids op t) ≤ t.sz := by
      obtain ⟨o, pl, k⟩ := t
      unfold putKids
      split
      · show T.szs k ≤ _
        rw [T.sz]; omega
      · split
        · simp [T.szs]
        · simp [T.szs]
    omega
theorem put_sz (op : Int) (Ts : List T) : (T.put op Ts).sz ≤ T.szs Ts + 1 := by
  have h := put_szs op Ts
  unfold T.put
  split
  · simp [T.zero, T.sz, T.szs]
  · rename_i x hx
    rw [hx] at h
    simp only [T.szs] at h
    omega
  · rename_i ks _ _
    rw [T.sz]
    omega
theorem RowsIs.len : ∀ {L : List (List Nd)} {Ts : List T}, RowsIs L Ts → L.length = Ts.length
  | [], [], _ => rfl
  | [], _ :: _, h => h.elim
  | _ :: _, [], h => h.elim
  | _ :: L, _ :: Ts, h => by rw [List.length_cons, List.length_cons, RowsIs.len h.2]
theorem RowsIs.each : ∀ {L : List (List Nd)} {Ts : List T}, RowsIs L Ts → ∀ r ∈ L, ∃ t ∈ Ts, RowIs r t ∧ t.sz ≤ T.szs Ts
  | [], [], _, r, hr => by cases hr
  | [], _ :: _, h, _, _ => h.elim
  | _ :: _, [], h, _, _ => h.elim
  | q :: L, t :: Ts, h, r, hr => by
    rw [T.szs]
    rcases List.mem_cons.1 hr with rfl | hr
    · exact ⟨t, by simp, h.1, by omega⟩
    · obtain ⟨t', h1, h2, h3⟩ := RowsIs.each h.2 r hr
      exact ⟨t', by simp [h1], h2, by omega⟩
/-- What is put together is small enough. -/
theorem putOk_of {op : Int} (hop : op = 1 ∨ op = 2) {l : Sl (Sl Nd)} {Ts : List T} (h : RowsIs (l.l.map Sl.l) Ts) (hs : T.szs Ts < 1000000000) : PutOk op l := by
  obtain ⟨h1, h2, h3⟩ := put_rows hop _ Ts 0 h
  have hq := put_szs op Ts
  refine ⟨?_, ?_, ?_, ?_, ?_⟩
  · have := h.len
    rw [List.length_map] at this
    have := T.szs_len Ts
    omega
  · intro t ht
    obtain ⟨t', _, h4, h5⟩ := h.each t.l (List.mem_map_of_mem ht)
    have := h4.len.1
    omega
  · intro t ht n hn
    obtain ⟨t', _, h4, h5⟩ := h.each t.l (List.mem_map_of_mem ht)
    obtain ⟨h6, h7⟩ := h4.kids n hn
    exact ⟨by omega, fun x hx => by have := h7 x hx; omega⟩
  · rw [← List.length_map Nd.v, h1, T.vrows_len]; omega
  · rw [h2, T.vkids_len]
    have := T.szs_len (Ts.flatMap (putKids op))
    omega
/-! ### A tree in place of a leaf -/
mutual
def T.tk : T → Int → T → T
  | .mk op pl k, leaf, b => if op ≥ 3 then b else T.put op (T.tks k leaf b)
def T.tks : List T → Int → T → List T
  | [], _, _ => []
  | p :: r, leaf, b => (if 0 ≤ leaf ∧ leaf < p.size then p.tk leaf b else p) :: T.tks r (leaf - p.size) b
end
mutual
theorem tk_sz : ∀ (t : T) (leaf : Int) (b : T), t.good → (t.tk leaf b).sz ≤ t.sz + b.sz
  | .mk op pl k, leaf, b, h => by
    rw [T.good] at h
    rw [T.tk]
    split
    · rw [T.sz]; omega
    · have h1 := put_sz op (T.tks k leaf b)
      have h2 : T.goods op k := by
        rcases h with h | h
        · omega
        · exact h.2.2.2
      have h3 := tks_sz op k leaf b h2
      rw [T.sz]
      omega
theorem tks_sz (op : Int) : ∀ (k : List T) (leaf : Int) (b : T), T.goods op k → T.szs (T.tks k leaf b) ≤ T.szs k + b.sz
  | [], _, _, _ => by simp [T.tks, T.szs]
  | p :: r, leaf, b, h => by
    rw [T.goods] at h
    rw [T.tks, T.szs, T.szs]
    have h1 := tks_sz op r (leaf - p.size) b h.2.2
    by_cases hin : 0 ≤ leaf ∧ leaf < p.size
    · rw [if_pos hin]
      have h2 := tk_sz p leaf b h.1
      have h3 : T.tks r (leaf - p.size) b = r := tks_out op r _ b h.2.2 (.inl (by omega))
      rw [h3]
      omega
    · rw [if_neg hin]
      omega
/-- A leaf that lies elsewhere. -/
theorem tks_out (op : Int) : ∀ (k : List T) (leaf : Int) (b : T), T.goods op k → (leaf < 0 ∨ leaf ≥ T.szs k) → T.tks k leaf b = k
  | [], _, _, _, _ => rfl
  | p :: r, leaf, b, h, ho => by
    rw [T.goods] at h
    rw [T.szs] at ho
    have hsz := (T.good_full p h.1).2
    rw [T.tks, tks_out op r _ b h.2.2 (by rw [hsz]; omega), if_neg (by rw [hsz]; omega)]
end
theorem put_self {op : Int} {k : List T} (hop : op = 1 ∨ op = 2) (h : T.goods op k) (hl : 2 ≤ k.length) : T.put op k = .mk op 0 k := by
  have hk : k.flatMap (putKids op) = k := by
    have : ∀ k : List T, T.goods op k → k.flatMap (putKids op) = k := by
      intro k
      induction k with
      | nil => intro _; rfl
      | cons p r ih =>
        intro h
        rw [T.goods] at h
        rw [List.flatMap_cons, ih h.2.2]
        unfold putKids
        rw [if_neg h.2.1, if_neg (T.good_op h.1)]
        rfl
    exact this k h
  unfold T.put
  rw [hk]
  match k, hl with
  | [], hl => simp at hl
  | [x], hl => simp at hl
  | x :: y :: r, _ => rfl
theorem leafN_is {op pl : Int} (h1 : op ≥ 3) (h2 : op ≤ 7) : RowIs (leafN op pl) (.mk op pl []) := by
  rw [leafN, if_neg (by omega)]
  exact .inr ⟨.inl ⟨h1, h2, rfl⟩, rfl⟩
theorem copy_v (l : List Nd) : (l.map Nd.copy).map Nd.v = l.map Nd.v := by
  rw [List.map_map]
  exact List.map_congr_left fun n _ => Nd.copy_v n
theorem takeAt_eq {l : List Nd} {leaf : Int} {b : List Nd} {f i : Nat} {n : Nd} (hn : l[i]? = some n) : takeAt l leaf b (f + 1) i =
    if (i : Int) = leaf then b.map Nd.copy else if n.kids.l.length = 0 then leafN n.op n.pl else putS n.op (n.kids.l.map fun k => takeAt l leaf b f k.toNat) := by
  rw [takeAt, hn]
mutual
theorem take_tree {l : List Nd} {leaf : Int} {br : List Nd} {B : T} (hb : RowIs br B) (hlf : ∀ n, l[leaf.toNat]? = some n → n.op ≥ 3) (h0 : 0 ≤ leaf) : ∀ (t : T) (b f : Nat), t.good → Seg l b (t.vrow b) → b + t.sz ≤ f → t.sz + B.sz < 999999999 →
    RowIs (takeAt l leaf br f (b + t.sz - 1)) (if (b : Int) ≤ leaf ∧ leaf < ((b + t.sz : Nat) : Int) then t.tk (leaf - b) B else t) ∧ TakeOk l leaf br f (b + t.sz - 1)
  | .mk op pl k, b, f, hg, hs, hf, hz => by
    obtain ⟨n, hn, e1', e2', e3'⟩ := hs.root
    have e1 : n.op = op := e1'
    have e2 : n.pl = pl := e2'
    have e3 : n.kids.l = T.vkids k b := e3'
    clear e1' e2' e3'
    rw [T.vrow, Seg.app] at hs
    rw [T.sz] at hn hf hz ⊢
    rw [show b + (T.szs k + 1) - 1 = b + T.szs k by omega] at hn ⊢
    obtain ⟨f, rfl⟩ : ∃ f', f = f' + 1 := ⟨f - 1, by omega⟩
    rw [takeAt_eq hn, T.tk]
    have hkl : n.kids.l.length = k.length := by rw [e3, T.vkids_len]
    rw [T.good] at hg
    rcases hg with ⟨h1, h2, rfl⟩ | ⟨h1, rfl, h2, h3⟩
    · have e0 : b + T.szs [] = b := rfl
      have e9 : T.szs [] = 0 := rfl
      rw [e0] at hn ⊢
      by_cases hi : (b : Int) = leaf
      · rw [if_pos hi, if_pos (by omega), if_pos h1]
        exact ⟨hb.of_v (copy_v br), ⟨n, hn, .inl hi⟩⟩
      · rw [if_neg hi, if_pos (by rw [hkl]; rfl), if_neg (by omega), e1, e2]
        exact ⟨leafN_is h1 h2, ⟨n, hn, .inr (.inl (by rw [hkl]; rfl))⟩⟩
    · have hi : ¬ ((b + T.szs k : Nat) : Int) = leaf := by
        intro e
        have := hlf n (by rw [← e, Int.toNat_natCast, hn])
        omega
      rw [if_neg hi, if_neg (by omega), if_neg (show ¬ op ≥ 3 by omega), e1, e3]
      obtain ⟨h4, h5⟩ := take_list hb hlf h0 op k b f h3 hs.1 (by omega) (by omega)
      have h6 : RowIs (putS op ((T.vkids k b).map fun x => takeAt l leaf br f x.toNat)) (T.put op (T.tks k (leaf - b) B)) := put_law h1 h4
      have h7 := tks_sz op k (leaf - b) B h3
      refine ⟨?_, ⟨n, hn, .inr (.inr ⟨fun x hx => ?_, ?_⟩)⟩⟩
      · by_cases hin : (b : Int) ≤ leaf ∧ leaf < ((b + (T.szs k + 1) : Nat) : Int)
        · rw [if_pos hin]; exact h6
        · rw [if_neg hin]
          rw [tks_out op k _ B h3 (by omega), put_self h1 h3 h2] at h6
          exact h6
      · rw [e3] at hx
        exact ⟨by have := T.vkids_range k b x hx; omega, h5 x hx⟩
      · rw [e1, e3]
        refine putOk_of h1 (Ts := T.tks k (leaf - b) B) ?_ (by omega)
        rw [grownS_l, List.map_map]
        have : ((T.vkids k b).map (Sl.l ∘ fun x => grownS (takeAt l leaf br f x.toNat))) = (T.vkids k b).map fun x => takeAt l leaf br f x.toNat := List.map_congr_left fun x _ => grownS_l _
        rw [this]
        exact h4
theorem take_list {l : List Nd} {leaf : Int} {br : List Nd} {B : T} (hb : RowIs br B) (hlf : ∀ n, l[leaf.toNat]? = some n → n.op ≥ 3) (h0 : 0 ≤ leaf) (op : Int) : ∀ (k : List T) (b f : Nat), T.goods op k → Seg l b (T.vrows k b) → b + T.szs k ≤ f → T.szs k + B.sz < 999999999 →
    RowsIs ((T.vkids k b).map fun x => takeAt l leaf br f x.toNat) (T.tks k (leaf - b) B) ∧ ∀ x ∈ T.vkids k b, TakeOk l leaf br f x.toNat
  | [], b, f, _, _, _, _ => ⟨trivial, fun x hx => by simp [T.vkids] at hx⟩
  | p :: r, b, f, hg, hs, hf, hz => by
    rw [T.goods] at hg
    rw [T.vrows, Seg.app, T.vrow_len] at hs
    rw [T.szs] at hf hz
    have hp := p.sz_pos
    have hsz := (T.good_full p hg.1).2
    obtain ⟨h1, h2⟩ := take_tree hb hlf h0 p b f hg.1 hs.1 (by omega) (by omega)
    obtain ⟨h3, h4⟩ := take_list hb hlf h0 op r (b + p.sz) f hg.2.2 hs.2 (by omega) (by omega)
    have hx : (((b + p.sz : Nat) : Int) - 1).toNat = b + p.sz - 1 := by omega
    rw [T.vkids, List.map_cons, hx, T.tks]
    refine ⟨⟨?_, ?_⟩, ?_⟩
    · by_cases hin : (b : Int) ≤ leaf ∧ leaf < ((b + p.sz : Nat) : Int)
      · rw [if_pos hin] at h1
        rw [if_pos (by rw [hsz]; omega)]
        exact h1
      · rw [if_neg hin] at h1
        rw [if_neg (by rw [hsz]; omega)]
        exact h1
    · rw [hsz, show leaf - (b : Int) - (p.sz : Int) = leaf - ((b + p.sz : Nat) : Int) by omega]
      exact h3
    · intro x hx'
      rcases List.mem_cons.1 hx' with rfl | hx'
      · rw [hx]; exact h2
      · exact h4 x hx'
end
end Go.Hs
end

section
namespace Go.Hs
open Go.Proofs
set_option maxRecDepth 10000

/- slices.Index[[]int,int] -/
theorem sIndex_spec (G : Nat → V) (hG : GOk G) (c : Col) (a : Sl Int) (x : Int) (ha : a.l.length < 1000000000) :
    Spec Try.prog G 39 [encSl c 1 (V.int .i64) a, .int .i64 x] hNone (fun v _ => ∃ i, v = .int .i64 i ∧ decide (i ≥ 0) = a.l.contains x) := by
  refine Spec.of_code' 0 19 [.tmp 4] Try.func39 rfl rfl rfl rfl fun X => ?_
  refine AW.seq_k fun K hK => AW.region (by kernel_rfl) ?_
  simp -implicitDefEqProofs only [go_sem, seval, ↓reduceIte]
  refine hK _ ?_
  clear hK K
  refine AW.seq_k fun K1 hK1 => ?_
  refine AW.seq_k fun K hK => AW.region (by kernel_rfl) ?_
  simp -implicitDefEqProofs only [go_sem, seval, ↓reduceIte]
  refine hK _ ?_
  clear hK K
  refine AW.block ?_
  refine AW.for a.l.length (fun k (_ : Unit) => st [(0, encSl c 1 (V.int .i64) a), (1, .int .i64 x), (7, .int .i64 a.l.length), (8, .int .i64 k)] []) (fun k _ => (a.l.take k).contains x = false) 0 () (Nat.zero_le _) (by simp)
    (Weak.st (by simp -implicitDefEqProofs only [go_sem, seval, ↓reduceIte]; try simp) (by simp -implicitDefEqProofs only [go_sem, seval, ↓reduceIte])) ?_
  intro k _ hk hR L2 hL2
  refine AW.seq_k fun K hK => AW.region (by kernel_rfl) ?_
  simp -implicitDefEqProofs only [go_sem, seval, ↓reduceIte]
  refine hK _ ?_
  clear hK K
  refine AW.seq_k fun K3 hK3 => ?_
  refine AW.condS (by simp -implicitDefEqProofs only [go_sem, seval, ↓reduceIte]; rfl) (fun h4 => ?_) (fun h4 => ?_)
  · -- true
    refine AW.skip ?_
    simp -implicitDefEqProofs only [go_sem, seval, ↓reduceIte]
    refine hK3 _ ?_
    have hk1 : k < a.l.length := by simpa using h4
    refine AW.seq_k fun K5 hK5 => ?_
    refine AW.block ?_
    refine AW.seq_k fun K hK => AW.region (by kernel_rfl) ?_
    simp -implicitDefEqProofs only [go_sem, seval, ↓reduceIte]
    refine hK _ ?_
    clear hK K
    refine AW.seq_k fun K hK => AW.region (by kernel_rfl) ?_
    simp -implicitDefEqProofs only [go_sem, seval, ↓reduceIte, List.getElem?_eq_getElem hk1]
    refine hK _ ?_
    clear hK K
    refine AW.condS (by simp -implicitDefEqProofs only [go_sem, seval, ↓reduceIte]; rfl) (fun h6 => ?_) (fun h6 => ?_)
    · -- true
      refine AW.seq_k fun K hK => AW.region (by kernel_rfl) ?_
      simp -implicitDefEqProofs only [go_sem, seval, ↓reduceIte]
      refine hK _ ?_
      clear hK K
      refine AW.ret ?_
      simp -implicitDefEqProofs only [go_sem, seval, ↓reduceIte]
      refine endK_some ?_
      refine ⟨_, rfl, ?_⟩
      simp at h6
      simp [h6]
    · -- false
      refine AW.skip ?_
      simp -implicitDefEqProofs only [go_sem, seval, ↓reduceIte]
      refine hK5 _ ?_
      refine AW.region (by kernel_rfl) ?_
      simp -implicitDefEqProofs only [go_sem, seval, ↓reduceIte]
      refine hL2 _ ⟨hk1, (), ?_, Weak.st (by simp -implicitDefEqProofs only [go_sem, seval, ↓reduceIte]; simp; exact w64 (by omega) (by omega)) (by simp -implicitDefEqProofs only [go_sem, seval, ↓reduceIte])⟩
      exact contains_step hk1 hR (by simpa using h6)
  · -- false
    refine AW.exit ?_
    simp -implicitDefEqProofs only [go_sem, seval, ↓reduceIte]
    refine hK1 _ ?_
    have hk1 : k = a.l.length := by simp at h4; omega
    refine AW.seq_k fun K hK => AW.region (by kernel_rfl) ?_
    simp -implicitDefEqProofs only [go_sem, seval, ↓reduceIte]
    refine hK _ ?_
    clear hK K
    refine AW.ret ?_
    simp -implicitDefEqProofs only [go_sem, seval, ↓reduceIte]
    refine endK_some ?_
    refine ⟨_, rfl, ?_⟩
    subst hk1
    rw [List.take_length] at hR
    rw [hR]
    rfl

/- slices.Contains[[]int,int] -/
theorem sContains_spec (G : Nat → V) (hG : GOk G) (c : Col) (a : Sl Int) (x : Int) (ha : a.l.length < 1000000000) :
    Spec Try.prog G 28 [encSl c 1 (V.int .i64) a, .int .i64 x] hNone (fun v _ => v = .bool (a.l.contains x)) := by
  refine Spec.of_code' 0 9 [.tmp 4] Try.func28 rfl rfl rfl rfl fun X => ?_
  refine AW.seq_k fun K hK => AW.region (by kernel_rfl) ?_
  simp -implicitDefEqProofs only [go_sem, seval, ↓reduceIte]
  refine hK _ ?_
  clear hK K
  refine AW.seq_k fun K hK => AW.region (by kernel_rfl) ?_
  simp -implicitDefEqProofs only [go_sem, seval, ↓reduceIte]
  refine CallA.pure hG (by kernel_rfl) ?_
  simp -implicitDefEqProofs only [go_sem, seval, ↓reduceIte]
  refine (sIndex_spec G hG _ a x ha).mono ?_
  rintro _ _ ⟨i, rfl, hi⟩
  simp -implicitDefEqProofs only [go_sem, seval, ↓reduceIte]
  refine hK _ ?_
  refine AW.ret ?_
  simp -implicitDefEqProofs only [go_sem, seval, ↓reduceIte]
  refine endK_some ?_
  rw [hi]

end Go.Hs
end

section
namespace Go.Hs
open Go.Proofs
set_option maxRecDepth 10000
/-- What steps.Take yields. -/
def takeP (l : List Nd) (leaf : Int) (b : List Nd) : List Nd :=
  if rightP b = true ∧ (readyP l).contains leaf = true then takeAt l leaf b l.length (l.length - 1) else l.map Nd.copy
/- hopscotch/steps.Take -/
theorem take_spec (G : Nat → V) (hG : GOk G) (c1 c2 c3 c4 : Col) (t : Sl Nd) (leaf : Int) (b : Sl Nd) (ht : t.l.length < 1000000000) (hks : ∀ n ∈ t.l, n.kids.l.length < 1000000000)
    (hb : b.l.length < 1000000000) (hbk : ∀ n ∈ b.l, n.kids.l.length < 1000000000) (hr : (readyP t.l).length < 1000000000)
    (hok : rightP b.l = true ∧ (readyP t.l).contains leaf = true → TakeOk t.l leaf b.l t.l.length (t.l.length - 1)) :
    Spec Try.prog G 13 [encTree c1 c2 t, .int .i64 leaf, encTree c3 c4 b] hNone (fun v _ => v = encTree .new .new (grownS (takeP t.l leaf b.l))) := by
  refine Spec.of_code' 0 27 [ResultVar.cell 6 24] Try.func13 rfl rfl rfl rfl fun X => ?_
  refine AW.seq_k fun K hK => AW.region (by kernel_rfl) ?_
  simp -implicitDefEqProofs only [go_sem, seval, ↓reduceIte]
  intro g3 g4 g5 g6
  refine hK _ ?_
  clear hK K
  refine AW.seqJ (fun (_ : Unit) => st [(3, .ptr 3 g3 0), (4, .ptr 4 g4 0), (5, .ptr 5 g5 0), (6, .ptr 6 g6 0)] [(3, .cells .new g3 0 [encSl c1 3 (encNd c2) t]), (4, .cells .new g4 0 [.int .i64 leaf]), (5, .cells .new g5 0 [encSl c3 3 (encNd c4) b]), (6, .cells .new g6 0 [.nils])]) (fun _ => rightP b.l = true ∧ (readyP t.l).contains leaf = true) (fun K1 hK1 => ?_) ?_
  · have copyit : ¬ (rightP b.l = true ∧ (readyP t.l).contains leaf = true) → encTree .new .new (grownS (t.l.map Nd.copy)) = encTree .new .new (grownS (takeP t.l leaf b.l)) := by
      intro h
      rw [takeP, if_neg h]
    have hright : ∀ c c', PureC Try.prog G 16 [encTree c c' b] (.bool (rightP b.l)) := fun c c' => ⟨by kernel_rfl, by
      simp -implicitDefEqProofs only [go_sem, seval, ↓reduceIte]
      refine (right_spec G hG _ _ b hb hbk).mono ?_
      rintro _ _ rfl
      rfl⟩
    have hready : PureC Try.prog G 17 [encTree c1 c2 t] (encSl .any 1 (V.int .i64) (grownS (readyP t.l))) := ⟨by kernel_rfl, by
      simp -implicitDefEqProofs only [go_sem, seval, ↓reduceIte]
      refine (ready_spec G hG _ _ t ht hks hr).mono ?_
      rintro _ _ rfl
      simp -implicitDefEqProofs only [go_sem, seval, ↓reduceIte]⟩
    have hcont : PureC Try.prog G 28 [encSl .any 1 (V.int .i64) (grownS (readyP t.l)), .int .i64 leaf] (.bool ((readyP t.l).contains leaf)) := ⟨by kernel_rfl, by
      simp -implicitDefEqProofs only [go_sem, seval, ↓reduceIte]
      refine (sContains_spec G hG _ (grownS (readyP t.l)) leaf (by rw [grownS_l]; exact hr)).mono ?_
      rintro _ _ rfl
      simp -implicitDefEqProofs only [go_sem, seval, ↓reduceIte]⟩
    by_cases h1 : rightP b.l = true
    · refine AW.seq_k fun K hK => AW.regionT ⟨fun i => if i = 1 then .bool (rightP b.l) else if i = 5 then encSl .any 1 (V.int .i64) (grownS (readyP t.l)) else if i = 7 then .bool ((readyP t.l).contains leaf) else .top, fun _ => .pure⟩ (by kernel_rfl) hG (by kernel_rfl) (by kernel_rfl) ?_
      simp -implicitDefEqProofs only [go_sem, seval, ↓reduceIte, h1]
      refine ⟨h1 ▸ hright _ _, hready, hcont, ?_⟩
      refine hK _ ?_
      clear hK K
      refine AW.condS (by simp -implicitDefEqProofs only [go_sem, seval, ↓reduceIte]; rfl) (fun h2 => ?_) (fun h2 => ?_)
      · -- true
        refine AW.seq_k fun K hK => AW.region (by kernel_rfl) ?_
        simp -implicitDefEqProofs only [go_sem, seval, ↓reduceIte]
        refine CallA.pure hG (by kernel_rfl) ?_
        simp -implicitDefEqProofs only [go_sem, seval, ↓reduceIte]
        refine (copied_spec G hG _ _ t ht hks).mono ?_
        rintro _ _ rfl
        simp -implicitDefEqProofs only [go_sem, seval, ↓reduceIte]
        refine hK _ ?_
        clear hK K
        refine AW.ret ?_
        simp -implicitDefEqProofs only [go_sem, seval, ↓reduceIte]
        refine endK_some ?_
        exact copyit (by rintro ⟨_, h⟩; rw [h] at h2; simp at h2)
      · refine AW.skip ?_
        simp -implicitDefEqProofs only [go_sem, seval, ↓reduceIte]
        exact hK1 _ () ⟨h1, by simpa using h2⟩ (Weak.st (by simp -implicitDefEqProofs only [go_sem, seval, ↓reduceIte]) (by simp -implicitDefEqProofs only [go_sem, seval, ↓reduceIte]))
    · have h1 : rightP b.l = false := by simpa using h1
      refine AW.seq_k fun K hK => AW.regionT ⟨fun i => if i = 1 then .bool (rightP b.l) else .top, fun _ => .pure⟩ (by kernel_rfl) hG (by kernel_rfl) (by kernel_rfl) ?_
      simp -implicitDefEqProofs only [go_sem, seval, ↓reduceIte, h1]
      refine ⟨h1 ▸ hright _ _, ?_⟩
      refine hK _ ?_
      clear hK K
      refine AW.condS (by simp -implicitDefEqProofs only [go_sem, seval, ↓reduceIte]; rfl) (fun h2 => ?_) (fun h2 => ?_)
      · -- true
        refine AW.seq_k fun K hK => AW.region (by kernel_rfl) ?_
        simp -implicitDefEqProofs only [go_sem, seval, ↓reduceIte]
        refine CallA.pure hG (by kernel_rfl) ?_
        simp -implicitDefEqProofs only [go_sem, seval, ↓reduceIte]
        refine (copied_spec G hG _ _ t ht hks).mono ?_
        rintro _ _ rfl
        simp -implicitDefEqProofs only [go_sem, seval, ↓reduceIte]
        refine hK _ ?_
        clear hK K
        refine AW.ret ?_
        simp -implicitDefEqProofs only [go_sem, seval, ↓reduceIte]
        refine endK_some ?_
        exact copyit (by rintro ⟨h, _⟩; rw [h] at h1; simp at h1)
      · simp at h2
  · intro _ hgood
    have h0 : 0 < t.l.length := by
      have h := hgood.2
      rcases Nat.eq_zero_or_pos t.l.length with h0 | h0
      · rw [readyP, if_pos (.inl h0)] at h; simp at h
      · exact h0
    refine AW.seq_k fun K hK => AW.region (by kernel_rfl) ?_
    simp -implicitDefEqProofs only [go_sem, seval, ↓reduceIte]
    intro g7
    refine hK _ ?_
    clear hK K
    refine AW.seq_k fun K hK => AW.region (by kernel_rfl) ?_
    simp -implicitDefEqProofs only [go_sem, seval, ↓reduceIte]
    refine hK _ ?_
    clear hK K
    refine AW.weak (Weak.stF (fun o => o == 3 || o == 4 || o == 5) (l := [(3, .view .new (encTree c1 c2 t)), (4, .view .new (.int .i64 leaf)), (5, .view .new (encTree c3 c4 b)), (6, .ptr 6 g6 0), (7, .ptr 7 g7 0)])
      (m := [(6, .cells .new g6 0 [.nils]), (7, .cells .any g7 0 [.func (.func 30) [] [.view .new (encTree c1 c2 t), .view .new (.int .i64 leaf), .view .new (encTree c3 c4 b), .ptr 7 g7 0]])]) ?_ ?_) ?_
    · simp -implicitDefEqProofs only [go_sem, seval, ↓reduceIte]
      exact ⟨Fz.ptr (v := encTree c1 c2 t) (fz := 0) rfl (by simp -implicitDefEqProofs only [go_sem, seval, ↓reduceIte]), Fz.ptr (v := .int .i64 leaf) (fz := 0) rfl (by simp -implicitDefEqProofs only [go_sem, seval, ↓reduceIte]; try rfl), Fz.ptr (v := encTree c3 c4 b) (fz := 0) rfl (by simp -implicitDefEqProofs only [go_sem, seval, ↓reduceIte]), Fz.same _, Fz.same _⟩
    · simp only [allFzO_cons, allFzO_nil, and_true]
      exact ⟨FzO.keep rfl (by simp -implicitDefEqProofs only [go_sem, seval, ↓reduceIte]), FzO.anyOf (c := .new) (fz := 0) (cs := [.func (.func 30) [] [.ptr 3 g3 0, .ptr 4 g4 0, .ptr 5 g5 0, .ptr 7 g7 0]]) rfl (by simp -implicitDefEqProofs only [go_sem, seval, ↓reduceIte]) ⟨Fz.func ⟨Fz.ptr (v := encTree c1 c2 t) (fz := 0) rfl (by simp -implicitDefEqProofs only [go_sem, seval, ↓reduceIte]), Fz.ptr (v := .int .i64 leaf) (fz := 0) rfl (by simp -implicitDefEqProofs only [go_sem, seval, ↓reduceIte]; try rfl), Fz.ptr (v := encTree c3 c4 b) (fz := 0) rfl (by simp -implicitDefEqProofs only [go_sem, seval, ↓reduceIte]), Fz.same _, trivial⟩, trivial⟩⟩
    refine AW.weak (Weak.stF (fun o => false) (l := [(3, .view .any (encTree .any .any t)), (6, .ptr 6 g6 0), (7, .ptr 7 g7 0)])
      (m := [(6, .cells .new g6 0 [.nils]), (7, .cells .any g7 0 [anewF t leaf b g7])]) ?_ ?_) ?_
    · simp -implicitDefEqProofs only [go_sem, seval, ↓reduceIte]
      exact ⟨Fz.any (by simp -implicitDefEqProofs only [go_sem, seval, ↓reduceIte]), Fz.same _, Fz.same _⟩
    · simp only [allFzO_cons, allFzO_nil, and_true]
      exact ⟨FzO.keep rfl (by simp -implicitDefEqProofs only [go_sem, seval, ↓reduceIte]), FzO.of (c := .any) (fz := 0) (cs := [.func (.func 30) [] [.view .new (encTree c1 c2 t), .view .new (.int .i64 leaf), .view .new (encTree c3 c4 b), .ptr 7 g7 0]]) rfl (by simp -implicitDefEqProofs only [go_sem, seval, ↓reduceIte]) ⟨Fz.any (by simp -implicitDefEqProofs only [go_sem, seval, ↓reduceIte]; try rfl), trivial⟩⟩
    have hw : IntKind.i64.wrap ((t.l.length : Int) - 1) = ((t.l.length - 1 : Nat) : Int) := by rw [w64 (by omega) (by omega)]; omega
    refine AW.seq_k fun K hK => AW.region (by kernel_rfl) ?_
    simp -implicitDefEqProofs only [go_sem, seval, ↓reduceIte, anewF, hw]
    refine AnewS.call hG (anew_spec G hG t ht hks leaf b hb hbk g7 t.l.length (t.l.length - 1) (hok hgood)) (by simp -implicitDefEqProofs only [go_sem, seval, ↓reduceIte]; try rfl) ?_
    simp -implicitDefEqProofs only [go_sem, seval, ↓reduceIte, sets]
    refine hK _ ?_
    clear hK K
    refine AW.ret ?_
    simp -implicitDefEqProofs only [go_sem, seval, ↓reduceIte]
    refine endK_some ?_
    rw [takeP, if_pos hgood]
end Go.Hs
end

section
namespace Go.Hs
open Go.Proofs
set_option maxRecDepth 10000

/- hopscotch/hopscotchref22.size -/
theorem size_spec (G : Nat → V) (hG : GOk G) : ∀ (n : Nat) (c : Col) (p : Pt), p.dep ≤ n → p.v.size < 1000000000 → (p.op = 0 ∨ p.v.full = true) →
    Spec Try.prog G 27 [encPt c p] hNone (fun v _ => v = .int .i64 p.v.size) := by
  intro n
  induction n with
  | zero => intro c p hd; obtain ⟨_, _, _, _⟩ := p; simp [Pt.dep] at hd
  | succ n ih =>
  intro c p hd hs hf
  refine Spec.of_code' 0 24 [.tmp 2] Try.func27 rfl rfl rfl rfl fun X => ?_
  refine AW.seq_k fun K hK => AW.region (by kernel_rfl) ?_
  simp -implicitDefEqProofs only [go_sem, seval, ↓reduceIte]
  intro g1
  refine hK _ ?_
  clear hK K
  refine AW.seq_k fun K1 hK1 => ?_
  refine AW.seq_k fun K hK => AW.region (by kernel_rfl) ?_
  simp -implicitDefEqProofs only [go_sem, seval, ↓reduceIte]
  refine hK _ ?_
  clear hK K
  refine AW.condS (by simp -implicitDefEqProofs only [go_sem, seval, ↓reduceIte]; rfl) (fun h2 => ?_) (fun h2 => ?_)
  · -- true
    refine AW.seq_k fun K hK => AW.region (by kernel_rfl) ?_
    simp -implicitDefEqProofs only [go_sem, seval, ↓reduceIte]
    refine hK _ ?_
    clear hK K
    refine AW.ret ?_
    simp -implicitDefEqProofs only [go_sem, seval, ↓reduceIte]
    refine endK_some ?_
    simp at h2
    rw [T.size_K, Pt.op_v, if_pos h2]
    rfl
  · -- false
    refine AW.skip ?_
    simp -implicitDefEqProofs only [go_sem, seval, ↓reduceIte]
    refine hK1 _ ?_
    have h0 : p.op ≠ 0 := by simpa using h2
    have hf : p.v.full = true := hf.resolve_left h0
    have hkl := T.full_kids hf
    rw [Pt.kids_v, List.length_map] at hkl
    have hsz : p.v.size = 1 + (p.ks.l.map fun q => q.v.size).sum := by
      rw [T.size_K, Pt.op_v, if_neg h0, Pt.kids_v, List.map_map]; rfl
    refine AW.seq_k fun K hK => AW.region (by kernel_rfl) ?_
    simp -implicitDefEqProofs only [go_sem, seval, ↓reduceIte]
    refine hK _ ?_
    clear hK K
    refine AW.seq_k fun K3 hK3 => ?_
    refine AW.seq_k fun K hK => AW.region (by kernel_rfl) ?_
    simp -implicitDefEqProofs only [go_sem, seval, ↓reduceIte]
    refine hK _ ?_
    clear hK K
    refine AW.block ?_
    refine AW.for p.ks.l.length (fun k (_ : Unit) => st [(1, .ptr 1 g1 0), (3, .int .i64 ((1 + ((p.ks.l.take k).map fun q => q.v.size).sum : Nat) : Int)), (4, .int .i64 k)]
        [(1, .cells .new g1 0 [.int .u8 p.op, .int .i64 p.pl, encSl c 3 (encPt c) p.ks])]) (fun k _ => True) 0 () (Nat.zero_le _) (by simp)
      (Weak.st (by simp -implicitDefEqProofs only [go_sem, seval, ↓reduceIte]; try simp) (by simp -implicitDefEqProofs only [go_sem, seval, ↓reduceIte])) ?_
    intro k _ hk hR L4 hL4
    refine AW.seq_k fun K5 hK5 => ?_
    refine AW.seq_k fun K hK => AW.region (by kernel_rfl) ?_
    simp -implicitDefEqProofs only [go_sem, seval, ↓reduceIte]
    refine hK _ ?_
    clear hK K
    refine AW.condS (by simp -implicitDefEqProofs only [go_sem, seval, ↓reduceIte]; rfl) (fun h6 => ?_) (fun h6 => ?_)
    · -- true
      refine AW.skip ?_
      simp -implicitDefEqProofs only [go_sem, seval, ↓reduceIte]
      refine hK5 _ ?_
      have hk1 : k < p.ks.l.length := by simpa using h6
      have hgi := List.getElem?_eq_getElem hk1
      refine AW.seq_k fun K7 hK7 => ?_
      refine AW.block ?_
      refine AW.region (by kernel_rfl) ?_
      simp -implicitDefEqProofs only [go_sem, seval, ↓reduceIte, hgi]
      refine CallA.pure hG (by kernel_rfl) ?_
      simp -implicitDefEqProofs only [go_sem, seval, ↓reduceIte]
      have hq := List.getElem_mem hk1
      have hqv : p.ks.l[k].v ∈ p.v.kids := by rw [Pt.kids_v]; exact List.mem_map_of_mem hq
      have hle : p.ks.l[k].v.size ≤ (p.ks.l.map fun q => q.v.size).sum := sum_le_of_mem (List.mem_map_of_mem (f := fun q : Pt => q.v.size) hq)
      have hih := ih c.ent p.ks.l[k] (by have := Pt.dep_kid hq; omega) (by omega) (.inr (((T.full_K _).1 hf).2 _ hqv))
      rw [encPt_K] at hih
      refine hih.mono ?_
      rintro _ _ rfl
      simp -implicitDefEqProofs only [go_sem, seval, ↓reduceIte]
      refine hK7 _ ?_
      refine AW.region (by kernel_rfl) ?_
      simp -implicitDefEqProofs only [go_sem, seval, ↓reduceIte]
      have htk := sum_take_le (p.ks.l.map fun q => q.v.size) (k + 1)
      rw [← List.map_take, List.take_succ_eq_append_getElem hk1, List.map_append, List.sum_append] at htk
      refine hL4 _ ⟨hk1, (), trivial, Weak.st (by simp -implicitDefEqProofs only [go_sem, seval, ↓reduceIte]; refine ⟨?_, ?_⟩; · { rw [List.take_succ_eq_append_getElem hk1, List.map_append, List.sum_append]; simp at htk ⊢; rw [w64 (by omega) (by omega)]; omega }; · exact congrArg _ (w64 (by omega) (by omega))) (by simp -implicitDefEqProofs only [go_sem, seval, ↓reduceIte])⟩
    · -- false
      refine AW.exit ?_
      simp -implicitDefEqProofs only [go_sem, seval, ↓reduceIte]
      refine hK3 _ ?_
      have hk1 : k = p.ks.l.length := by simp at h6; omega
      refine AW.seq_k fun K hK => AW.region (by kernel_rfl) ?_
      simp -implicitDefEqProofs only [go_sem, seval, ↓reduceIte]
      refine hK _ ?_
      clear hK K
      refine AW.ret ?_
      simp -implicitDefEqProofs only [go_sem, seval, ↓reduceIte]
      refine endK_some ?_
      rw [hk1, List.take_length, hsz]
end Go.Hs
end

section
namespace Go.Hs
open Go.Proofs
set_option maxRecDepth 10000

/- hopscotch/hopscotchref22.Put -/
theorem rPut_spec (G : Nat → V) (hG : GOk G) (op : Int) (a : Sl Pt) (ha : a.l.length < 1000000000) (hp : (a.l.flatMap (Pt.putKids op)).length < 1000000000) :
    Spec Try.prog G 21 [.int .u8 op, encSl .any 3 (encPt .any) a] hNone (fun v _ => v = encPt .any (Pt.put op a.l)) := by
  refine Spec.of_code' 0 53 [ResultVar.cell 4 31] Try.func21 rfl rfl rfl rfl fun X => ?_
  refine AW.seq_k fun K hK => AW.region (by kernel_rfl) ?_
  simp -implicitDefEqProofs only [go_sem, seval, ↓reduceIte]
  intro g4
  refine hK _ ?_
  clear hK K
  refine AW.seq_k fun K hK => AW.region (by kernel_rfl) ?_
  simp -implicitDefEqProofs only [go_sem, seval, ↓reduceIte]
  refine hK _ ?_
  clear hK K
  refine AW.seq_k fun K1 hK1 => ?_
  refine AW.seq_k fun K hK => AW.region (by kernel_rfl) ?_
  simp -implicitDefEqProofs only [go_sem, seval, ↓reduceIte]
  refine hK _ ?_
  clear hK K
  refine AW.block ?_
  refine AW.for a.l.length (fun k (x : (Nat × Nat) × List Pt) => st [(0, .int .u8 op), (1, encSl .any 3 (encPt .any) a), (4, .ptr 4 g4 0), (5, grown x.1.1 x.1.2 3 x.2), (6, .int .i64 k)]
      [(4, .cells .new g4 0 [.int .u8 0, .int .i64 0, .nils]), (x.1.1, grownO x.1.2 (encPt .any) x.2)])
    (fun k x => (x.1.1 = 26 ∨ x.1.1 = 39) ∧ x.2 = (a.l.take k).flatMap (Pt.putKids op)) 0 ((26, 0), []) (Nat.zero_le _) (by simp)
    (Weak.st (by simp -implicitDefEqProofs only [go_sem, seval, ↓reduceIte]; simp [grown]) (by simp -implicitDefEqProofs only [go_sem, seval, ↓reduceIte]; try rfl)) ?_
  rintro k ⟨⟨o, gx⟩, l⟩ hk ⟨ho, hR⟩ L2 hL2
  have hne : ∀ {o : Nat}, o = 26 ∨ o = 39 → ((o = 4) = False ∧ (4 = o) = False ∧ (o = 38) = False) := by rintro o (rfl | rfl) <;> simp
  have ho4 := (hne ho).1
  have ho4' := (hne ho).2.1
  have ho38 := (hne ho).2.2
  refine AW.seq_k fun K3 hK3 => ?_
  refine AW.seq_k fun K hK => AW.region (by kernel_rfl) ?_
  simp -implicitDefEqProofs only [go_sem, seval, ↓reduceIte]
  refine hK _ ?_
  clear hK K
  refine AW.condS (by simp -implicitDefEqProofs only [go_sem, seval, ↓reduceIte]; rfl) (fun h4 => ?_) (fun h4 => ?_)
  · -- true
    refine AW.skip ?_
    simp -implicitDefEqProofs only [go_sem, seval, ↓reduceIte]
    refine hK3 _ ?_
    have hk1 : k < a.l.length := by simpa using h4
    have hgi := List.getElem?_eq_getElem hk1
    have hR : l = (a.l.take k).flatMap (Pt.putKids op) := hR
    have hR' : l ++ Pt.putKids op a.l[k] = (a.l.take (k + 1)).flatMap (Pt.putKids op) := by
      rw [List.take_succ_eq_append_getElem hk1, List.flatMap_append, ← hR]
      simp
    have hlen : l.length + (Pt.putKids op a.l[k]).length < 1000000000 := by
      have h1 := congrArg List.length hR'
      have h2 : (a.l.take (k + 1)).flatMap (Pt.putKids op) ++ (a.l.drop (k + 1)).flatMap (Pt.putKids op) = a.l.flatMap (Pt.putKids op) := by
        rw [← List.flatMap_append, List.take_append_drop]
      have h3 := congrArg List.length h2
      simp only [List.length_append] at h1 h3
      omega
    refine AW.seqJ (fun (x : (Nat × Nat) × List Pt) => st [(0, .int .u8 op), (1, encSl .any 3 (encPt .any) a), (4, .ptr 4 g4 0), (5, grown x.1.1 x.1.2 3 x.2), (6, .int .i64 k)]
      [(4, .cells .new g4 0 [.int .u8 0, .int .i64 0, .nils]), (x.1.1, grownO x.1.2 (encPt .any) x.2)])
      (fun x => (x.1.1 = 26 ∨ x.1.1 = 39) ∧ x.2 = (a.l.take (k + 1)).flatMap (Pt.putKids op)) (fun K5 hK5 => ?_) ?_
    · refine AW.block ?_
      refine AW.seq_k fun K hK => AW.region (by kernel_rfl) ?_
      simp -implicitDefEqProofs only [go_sem, seval, ↓reduceIte, hgi]
      refine hK _ ?_
      clear hK K
      refine AW.condS (by simp -implicitDefEqProofs only [go_sem, seval, ↓reduceIte]; rfl) (fun h6 => ?_) (fun h6 => ?_)
      · -- true
        have h6' : (a.l[k]).op = op := by simpa using h6
        rw [Pt.putKids, if_pos h6'] at hR' hlen
        refine AW.region (by kernel_rfl) ?_
        simp -implicitDefEqProofs only [go_sem, seval, ↓reduceIte, hgi]
        refine app_grown2 (f := encPt .any) (l := l) (l2 := (a.l[k]).ks.l) (o := o) (g := gx) (encPt_cells _) rfl rfl rfl (by simp -implicitDefEqProofs only [go_sem, seval, ↓reduceIte, ho4]) (roomOk_of (by omega) (by omega)) fun o2 g2 ho2 => ?_
        simp -implicitDefEqProofs only [go_sem, seval, ↓reduceIte]
        have ho2' : o2 = 26 ∨ o2 = 39 := by rcases ho2 with rfl | rfl; · { exact ho }; · exact .inl rfl
        refine hK5 _ ((o2, g2), l ++ (a.l[k]).ks.l) ⟨ho2', hR'⟩ (Weak.st (by simp -implicitDefEqProofs only [go_sem, seval, ↓reduceIte]) (by simp -implicitDefEqProofs only [go_sem, seval, ↓reduceIte, (hne ho2').2.1]))
      · -- false
        have h6' : ¬ (a.l[k]).op = op := by simpa using h6
        rw [Pt.putKids, if_neg h6'] at hR' hlen
        refine AW.seq_k fun K hK => AW.region (by kernel_rfl) ?_
        simp -implicitDefEqProofs only [go_sem, seval, ↓reduceIte, hgi]
        refine hK _ ?_
        clear hK K
        refine AW.condS (by simp -implicitDefEqProofs only [go_sem, seval, ↓reduceIte]; rfl) (fun h7 => ?_) (fun h7 => ?_)
        · -- true
          have h7' : ¬ (a.l[k]).op = 0 := by simpa using h7
          rw [if_neg h7'] at hR' hlen
          refine AW.region (by kernel_rfl) ?_
          simp -implicitDefEqProofs only [go_sem, seval, ↓reduceIte, hgi]
          intro g38
          refine app_grown2 (f := encPt .any) (l := l) (l2 := [a.l[k]]) (o := o) (g := gx) (encPt_cells _) rfl (by simp only [List.map_cons, List.map_nil, flat, List.flatMap_cons, List.flatMap_nil, encPt_K]; rfl) rfl (by simp -implicitDefEqProofs only [go_sem, seval, ↓reduceIte, ho4, ho38]) (roomOk_of (by omega) (by simpa using (by simp at hlen; omega))) fun o2 g2 ho2 => ?_
          simp -implicitDefEqProofs only [go_sem, seval, ↓reduceIte]
          have ho2' : o2 = 26 ∨ o2 = 39 := by rcases ho2 with rfl | rfl; · { exact ho }; · exact .inr rfl
          refine hK5 _ ((o2, g2), l ++ [a.l[k]]) ⟨ho2', hR'⟩ (Weak.st (by simp -implicitDefEqProofs only [go_sem, seval, ↓reduceIte]) (by simp -implicitDefEqProofs only [go_sem, seval, ↓reduceIte, (hne ho2').2.1]))
        · -- false
          have h7' : (a.l[k]).op = 0 := by simpa using h7
          rw [if_pos h7', List.append_nil] at hR'
          refine AW.skip ?_
          simp -implicitDefEqProofs only [go_sem, seval, ↓reduceIte]
          refine hK5 _ ((o, gx), l) ⟨ho, hR'⟩ (Weak.st (by simp -implicitDefEqProofs only [go_sem, seval, ↓reduceIte]) (by simp -implicitDefEqProofs only [go_sem, seval, ↓reduceIte, ho4, ho4']))
    · rintro ⟨⟨o2, g2⟩, m⟩ ⟨ho2, hRm⟩
      refine AW.region (by kernel_rfl) ?_
      simp -implicitDefEqProofs only [go_sem, seval, ↓reduceIte]
      refine hL2 _ ⟨hk1, ((o2, g2), m), ⟨ho2, hRm⟩, Weak.st (by simp -implicitDefEqProofs only [go_sem, seval, ↓reduceIte]; exact congrArg _ (w64 (by omega) (by omega))) (by simp -implicitDefEqProofs only [go_sem, seval, ↓reduceIte, (hne ho2).1, (hne ho2).2.1])⟩
  · -- false
    refine AW.exit ?_
    simp -implicitDefEqProofs only [go_sem, seval, ↓reduceIte]
    refine hK1 _ ?_
    have hk1 : k = a.l.length := by simp at h4; omega
    rw [hk1, List.take_length] at hR
    have hR : l = a.l.flatMap (Pt.putKids op) := hR
    rw [Pt.put, ← hR]
    refine AW.weak (Weak.stF (fun x => x == o) (l := [(0, .int .u8 op), (4, .ptr 4 g4 0), (5, encSl .new 3 (encPt .any) (grownS l))]) (m := [(4, .cells .new g4 0 [.int .u8 0, .int .i64 0, .nils])]) ?_ ?_) ?_
    · simp -implicitDefEqProofs only [go_sem, seval, ↓reduceIte]
      exact ⟨Fz.same _, Fz.same _, Fz.grown (by simp) (by simp -implicitDefEqProofs only [go_sem, seval, ↓reduceIte, ho4]) (encPt_cells _)⟩
    · simp only [allFzO_cons, allFzO_nil, and_true]
      exact FzO.keep (by simp; rcases ho with rfl | rfl <;> simp) (by simp -implicitDefEqProofs only [go_sem, seval, ↓reduceIte, ho4'])
    refine AW.weak (Weak.stF (fun x => false) (l := [(0, .int .u8 op), (4, .ptr 4 g4 0), (5, encSl .any 3 (encPt .any) (grownS l))]) (m := [(4, .cells .new g4 0 [.int .u8 0, .int .i64 0, .nils])]) ?_ ?_) ?_
    · simp -implicitDefEqProofs only [go_sem, seval, ↓reduceIte]
      exact ⟨Fz.same _, Fz.same _, Fz.any (by simp -implicitDefEqProofs only [go_sem, seval, ↓reduceIte])⟩
    · simp only [allFzO_cons, allFzO_nil, and_true]
      exact FzO.keep rfl (by simp -implicitDefEqProofs only [go_sem, seval, ↓reduceIte])
    refine AW.seq_k fun K8 hK8 => ?_
    refine AW.seq_k fun K hK => AW.region (by kernel_rfl) ?_
    simp -implicitDefEqProofs only [go_sem, seval, ↓reduceIte]
    refine hK _ ?_
    clear hK K
    refine AW.condS (by simp -implicitDefEqProofs only [go_sem, seval, ↓reduceIte]; rfl) (fun h9 => ?_) (fun h9 => ?_)
    · -- true
      refine AW.seq_k fun K hK => AW.region (by kernel_rfl) ?_
      simp -implicitDefEqProofs only [go_sem, seval, ↓reduceIte]
      refine hK _ ?_
      clear hK K
      refine AW.ret ?_
      simp -implicitDefEqProofs only [go_sem, seval, ↓reduceIte]
      refine endK_some ?_
      have : l = [] := by simpa [grownS_l] using h9
      subst this
      rfl
    · -- false
      refine AW.skip ?_
      simp -implicitDefEqProofs only [go_sem, seval, ↓reduceIte]
      refine hK8 _ ?_
      refine AW.seq_k fun K10 hK10 => ?_
      refine AW.seq_k fun K hK => AW.region (by kernel_rfl) ?_
      simp -implicitDefEqProofs only [go_sem, seval, ↓reduceIte]
      refine hK _ ?_
      clear hK K
      refine AW.condS (by simp -implicitDefEqProofs only [go_sem, seval, ↓reduceIte]; rfl) (fun h11 => ?_) (fun h11 => ?_)
      · -- true
        obtain ⟨x, rfl⟩ : ∃ x, l = [x] := List.length_eq_one_iff.1 (by simp [grownS_l] at h11; omega)
        refine AW.seq_k fun K hK => AW.region (by kernel_rfl) ?_
        simp -implicitDefEqProofs only [go_sem, seval, ↓reduceIte, grownS_l]
        refine hK _ ?_
        clear hK K
        refine AW.ret ?_
        simp -implicitDefEqProofs only [go_sem, seval, ↓reduceIte]
        refine endK_some ?_
        rfl
      · -- false
        refine AW.skip ?_
        simp -implicitDefEqProofs only [go_sem, seval, ↓reduceIte]
        refine hK10 _ ?_
        refine AW.seq_k fun K hK => AW.region (by kernel_rfl) ?_
        simp -implicitDefEqProofs only [go_sem, seval, ↓reduceIte]
        refine hK _ ?_
        clear hK K
        refine AW.ret ?_
        simp -implicitDefEqProofs only [go_sem, seval, ↓reduceIte]
        refine endK_some ?_
        rw [Pt.putOf_more op (by simpa [grownS_l] using h9) (by simp [grownS_l] at h11; omega), ← encPt_K, encPt_of]
end Go.Hs
end

section
namespace Go.Hs
open Go.Proofs
set_option maxRecDepth 10000

theorem Pt.takes_len (n : Nat) (t : Pt → Int → Pt) (b : Pt) : ∀ (l : List Pt) (leaf : Int), (Pt.takes n t b l leaf).length = l.length
  | [], _ => rfl
  | p :: r, leaf => by simp [Pt.takes, Pt.takes_len n t b r]

/-- What bounds the sizes within Take. -/
def takeOk : Nat → Pt → Int → Pt → Prop
  | 0, _, _, _ => False
  | n + 1, p, leaf, b => p.op ≥ 3 ∨ (p.v.full = true ∧ p.v.size < 1000000000 ∧ ((Pt.takes n (fun q l => Pt.take n q l b) b p.ks.l leaf).flatMap (Pt.putKids p.op)).length < 1000000000 ∧
      ∀ (k : Nat) (hk : k < p.ks.l.length), 0 ≤ leaf - ((p.ks.l.take k).map fun q => q.v.size).sum → leaf - ((p.ks.l.take k).map fun q => q.v.size).sum < p.ks.l[k].v.size →
        takeOk n p.ks.l[k] (leaf - ((p.ks.l.take k).map fun q => q.v.size).sum) b)

/- hopscotch/hopscotchref22.Take -/
theorem rTake_spec (G : Nat → V) (hG : GOk G) : ∀ (n : Nat) (p : Pt) (leaf : Int) (b : Pt), takeOk n p leaf b → 0 ≤ leaf → leaf < 1000000000 →
    Spec Try.prog G 12 [encPt .any p, .int .i64 leaf, encPt .any b] hNone (fun v _ => v = encPt .any (Pt.take n p leaf b)) := by
  intro n
  induction n with
  | zero => intro p leaf b h; exact h.elim
  | succ n ih =>
  intro p leaf b hok hl0 hl1
  refine Spec.of_code' 0 60 [ResultVar.cell 6 31] Try.func12 rfl rfl rfl rfl fun X => ?_
  refine AW.seq_k fun K hK => AW.region (by kernel_rfl) ?_
  simp -implicitDefEqProofs only [go_sem, seval, ↓reduceIte]
  intro g3 g5 g6
  refine hK _ ?_
  clear hK K
  refine AW.seq_k fun K1 hK1 => ?_
  refine AW.seq_k fun K hK => AW.region (by kernel_rfl) ?_
  simp -implicitDefEqProofs only [go_sem, seval, ↓reduceIte]
  refine hK _ ?_
  clear hK K
  refine AW.condS (by simp -implicitDefEqProofs only [go_sem, seval, ↓reduceIte]; rfl) (fun h2 => ?_) (fun h2 => ?_)
  · -- true
    refine AW.seq_k fun K hK => AW.region (by kernel_rfl) ?_
    simp -implicitDefEqProofs only [go_sem, seval, ↓reduceIte]
    refine hK _ ?_
    clear hK K
    refine AW.ret ?_
    simp -implicitDefEqProofs only [go_sem, seval, ↓reduceIte]
    refine endK_some ?_
    have h2' : p.op ≥ 3 := by simpa using h2
    rw [Pt.take, if_pos h2']
  · -- false
    refine AW.skip ?_
    simp -implicitDefEqProofs only [go_sem, seval, ↓reduceIte]
    refine hK1 _ ?_
    have h2' : ¬ p.op ≥ 3 := by simpa using h2
    obtain ⟨hf, hs, hfl, hkid⟩ := hok.resolve_left h2'
    have hkl := T.full_kids hf
    rw [Pt.kids_v, List.length_map] at hkl
    have hsz : p.v.size = 1 + (p.ks.l.map fun q => q.v.size).sum := by
      rw [T.size_K, if_neg ((T.full_K _).1 hf).1, Pt.kids_v, List.map_map]; rfl
    have hfk : ∀ q ∈ p.ks.l, q.v.full = true := fun q hq => ((T.full_K _).1 hf).2 _ (by rw [Pt.kids_v]; exact List.mem_map_of_mem hq)
    refine AW.seq_k fun K hK => AW.region (by kernel_rfl) ?_
    simp -implicitDefEqProofs only [go_sem, seval, ↓reduceIte]
    refine hK _ ?_
    clear hK K
    refine AW.seq_k fun K3 hK3 => ?_
    refine AW.seq_k fun K hK => AW.region (by kernel_rfl) ?_
    simp -implicitDefEqProofs only [go_sem, seval, ↓reduceIte]
    refine hK _ ?_
    clear hK K
    refine AW.block ?_
    refine AW.for p.ks.l.length (fun k (x : (Nat × Nat) × List Pt) => st [(1, .int .i64 (leaf - ((p.ks.l.take k).map fun q => q.v.size).sum)), (3, .ptr 3 g3 0), (5, .ptr 5 g5 0), (6, .ptr 6 g6 0), (7, grown x.1.1 x.1.2 3 x.2), (8, .int .i64 k)]
        [(3, .cells .new g3 0 [.int .u8 p.op, .int .i64 p.pl, encSl .any 3 (encPt .any) p.ks]), (5, .cells .new g5 0 [.int .u8 b.op, .int .i64 b.pl, encSl .any 3 (encPt .any) b.ks]), (6, .cells .new g6 0 [.int .u8 0, .int .i64 0, .nils]), (x.1.1, grownO x.1.2 (encPt .any) x.2)])
      (fun k x => (x.1.1 = 44 ∨ x.1.1 = 52) ∧ x.2 ++ Pt.takes n (fun q l => Pt.take n q l b) b (p.ks.l.drop k) (leaf - ((p.ks.l.take k).map fun q => q.v.size).sum) = Pt.takes n (fun q l => Pt.take n q l b) b p.ks.l leaf) 0 ((44, 0), []) (Nat.zero_le _) (by simp)
      (Weak.st (by simp -implicitDefEqProofs only [go_sem, seval, ↓reduceIte] <;> simp [grown]) (by simp -implicitDefEqProofs only [go_sem, seval, ↓reduceIte] <;> rfl)) ?_
    rintro k ⟨⟨o, gx⟩, l⟩ hk ⟨ho, hR⟩ L4 hL4
    have hne : ∀ {o : Nat}, o = 44 ∨ o = 52 → ((o = 3) = False ∧ (3 = o) = False ∧ (o = 5) = False ∧ (5 = o) = False ∧ (o = 6) = False ∧ (6 = o) = False ∧ (o = 43) = False ∧ (o = 51) = False ∧ (43 = o) = False ∧ (51 = o) = False) := by rintro o (rfl | rfl) <;> simp
    obtain ⟨ne1, ne2, ne3, ne4, ne5, ne6, ne7, ne8, ne9, ne10⟩ := hne ho
    refine AW.seq_k fun K5 hK5 => ?_
    refine AW.seq_k fun K hK => AW.region (by kernel_rfl) ?_
    simp -implicitDefEqProofs only [go_sem, seval, ↓reduceIte, ne1, ne2, ne3, ne4, ne5, ne6]
    refine hK _ ?_
    clear hK K
    refine AW.condS (by simp -implicitDefEqProofs only [go_sem, seval, ↓reduceIte]; rfl) (fun h6 => ?_) (fun h6 => ?_)
    · -- true
      refine AW.skip ?_
      simp -implicitDefEqProofs only [go_sem, seval, ↓reduceIte]
      refine hK5 _ ?_
      have hk1 : k < p.ks.l.length := by simpa using h6
      have hgi := List.getElem?_eq_getElem hk1
      have hq := List.getElem_mem hk1
      have htk := sum_take_le (p.ks.l.map fun q => q.v.size) (k + 1)
      rw [← List.map_take, List.take_succ_eq_append_getElem hk1, List.map_append, List.sum_append] at htk
      simp only [List.map_cons, List.map_nil, List.sum_cons, List.sum_nil, Nat.add_zero] at htk
      refine AW.seq_k fun K7 hK7 => ?_
      refine AW.block ?_
      refine AW.seq_k fun K hK => AW.region (by kernel_rfl) ?_
      simp -implicitDefEqProofs only [go_sem, seval, ↓reduceIte, hgi, ne1, ne2, ne3, ne4, ne5, ne6]
      refine CallA.pure hG (by kernel_rfl) ?_
      simp -implicitDefEqProofs only [go_sem, seval, ↓reduceIte]
      have hih := size_spec G hG (p.dep + 1) .any p.ks.l[k] (by have := Pt.dep_kid hq; omega) (by omega) (.inr (hfk _ hq))
      rw [encPt_K] at hih
      refine hih.mono ?_
      rintro _ _ rfl
      simp -implicitDefEqProofs only [go_sem, seval, ↓reduceIte]
      refine hK _ ?_
      clear hK K
      generalize hlk : leaf - ((p.ks.l.take k).map fun q => q.v.size).sum = lk at hR
      have hlk1 : -1000000000 < lk ∧ lk < 1000000000 := by omega
      have hnext : leaf - ((p.ks.l.take (k + 1)).map fun q => q.v.size).sum = lk - p.ks.l[k].v.size := by
        rw [List.take_succ_eq_append_getElem hk1, List.map_append, List.sum_append, ← hlk]; simp; omega
      have hR' : l ++ (if 0 ≤ lk ∧ lk < p.ks.l[k].v.size then Pt.take n p.ks.l[k] lk b else p.ks.l[k]) :: Pt.takes n (fun q l => Pt.take n q l b) b (p.ks.l.drop (k + 1)) (lk - p.ks.l[k].v.size) =
          Pt.takes n (fun q l => Pt.take n q l b) b p.ks.l leaf := by
        rw [← hR, List.drop_eq_getElem_cons hk1, Pt.takes]
      have hll : l.length < 1000000000 := by
        have h1 := congrArg List.length hR'
        rw [Pt.takes_len] at h1
        simp at h1
        omega
      refine AW.seqJ (fun (x : (Nat × Nat) × List Pt) => st [(1, .int .i64 lk), (3, .ptr 3 g3 0), (5, .ptr 5 g5 0), (6, .ptr 6 g6 0), (7, grown x.1.1 x.1.2 3 x.2), (8, .int .i64 k), (9, .int .i64 p.ks.l[k].v.size)]
        [(3, .cells .new g3 0 [.int .u8 p.op, .int .i64 p.pl, encSl .any 3 (encPt .any) p.ks]), (5, .cells .new g5 0 [.int .u8 b.op, .int .i64 b.pl, encSl .any 3 (encPt .any) b.ks]), (6, .cells .new g6 0 [.int .u8 0, .int .i64 0, .nils]), (x.1.1, grownO x.1.2 (encPt .any) x.2)])
        (fun x => (x.1.1 = 44 ∨ x.1.1 = 52) ∧ x.2 ++ Pt.takes n (fun q l => Pt.take n q l b) b (p.ks.l.drop (k + 1)) (lk - p.ks.l[k].v.size) = Pt.takes n (fun q l => Pt.take n q l b) b p.ks.l leaf) (fun K8 hK8 => ?_) ?_
      · by_cases hin : 0 ≤ lk ∧ lk < p.ks.l[k].v.size
        · rw [if_pos hin] at hR'
          refine AW.seq_k fun K hK => AW.region (by kernel_rfl) ?_
          simp -implicitDefEqProofs only [go_sem, seval, ↓reduceIte, decide_eq_true (show lk ≥ 0 from hin.1), decide_eq_true hin.2]
          refine hK _ ?_
          clear hK K
          refine AW.condS (by simp -implicitDefEqProofs only [go_sem, seval, ↓reduceIte]; rfl) (fun h9 => ?_) (fun h9 => ?_)
          · refine AW.regionT ⟨fun i => if i = 8 then encPt .any (Pt.take n p.ks.l[k] lk b) else .top, fun _ => .pure⟩ (by kernel_rfl) hG (by kernel_rfl) (by kernel_rfl) ?_
            simp -implicitDefEqProofs only [go_sem, seval, ↓reduceIte, hgi, ne1, ne2, ne3, ne4, ne5, ne6]
            have hih := ih p.ks.l[k] lk b (hlk ▸ hkid k hk1 (hlk ▸ hin.1) (hlk ▸ hin.2)) hin.1 (by omega)
            simp only [encPt_K] at hih
            refine ⟨⟨by kernel_rfl, ?_⟩, by simp -implicitDefEqProofs only [go_sem, seval, ↓reduceIte, ne9], fun g43 => ?_⟩
            · simp -implicitDefEqProofs only [go_sem, seval, ↓reduceIte]
              refine hih.mono ?_
              rintro _ _ rfl
              simp -implicitDefEqProofs only [go_sem, seval, ↓reduceIte]
            refine app_grown2 (f := encPt .any) (l := l) (l2 := [Pt.take n p.ks.l[k] lk b]) (o := o) (g := gx) (encPt_cells _) rfl (by simp only [List.map_cons, List.map_nil, flat, List.flatMap_cons, List.flatMap_nil, encPt_K]; rfl) rfl (by simp -implicitDefEqProofs only [go_sem, seval, ↓reduceIte, ne1, ne3, ne5, ne7]) (roomOk_of (by omega) (by simp; omega)) fun o2 g2 ho2 => ?_
            have ho2' : o2 = 44 ∨ o2 = 52 := by rcases ho2 with rfl | rfl; · { exact ho }; · exact .inl rfl
            obtain ⟨me1, me2, me3, me4, me5, me6, me7, me8, me9, me10⟩ := hne ho2'
            simp -implicitDefEqProofs only [go_sem, seval, ↓reduceIte, me1, me2, me3, me4, me5, me6, me7, me8, me9, me10]
            refine hK8 _ ((o2, g2), l ++ [Pt.take n p.ks.l[k] lk b]) ⟨ho2', by rw [← hR']; simp⟩ (Weak.st (by simp -implicitDefEqProofs only [go_sem, seval, ↓reduceIte]) (by simp -implicitDefEqProofs only [go_sem, seval, ↓reduceIte, me1, me2, me3, me4, me5, me6, me7, me8, me9, me10]))
          · simp at h9
        · rw [if_neg hin] at hR'
          have hrest : ∀ τ' : Nat → V, τ' 33 = .bool false → τ' 1 = .int .i64 lk → τ' 3 = .ptr 3 g3 0 → τ' 5 = .ptr 5 g5 0 → τ' 6 = .ptr 6 g6 0 → τ' 7 = grown o gx 3 l → τ' 8 = .int .i64 k → τ' 9 = .int .i64 p.ks.l[k].v.size → True := fun _ _ _ _ _ _ _ _ _ => trivial
          have hfalse : (lk ≥ 0 ∧ ¬ lk < p.ks.l[k].v.size) ∨ ¬ lk ≥ 0 := by omega
          rcases hfalse with ⟨hp1, hp2⟩ | hp1
          · refine AW.seq_k fun K hK => AW.region (by kernel_rfl) ?_
            simp -implicitDefEqProofs only [go_sem, seval, ↓reduceIte, decide_eq_true hp1, decide_eq_false hp2]
            refine hK _ ?_
            clear hK K
            refine AW.condS (by simp -implicitDefEqProofs only [go_sem, seval, ↓reduceIte]; rfl) (fun h9 => ?_) (fun h9 => ?_)
            · simp at h9
            · refine AW.region (by kernel_rfl) ?_
              simp -implicitDefEqProofs only [go_sem, seval, ↓reduceIte, hgi, ne1, ne2, ne3, ne4, ne5, ne6]
              intro g51
              refine app_grown2 (f := encPt .any) (l := l) (l2 := [p.ks.l[k]]) (o := o) (g := gx) (encPt_cells _) rfl (by simp only [List.map_cons, List.map_nil, flat, List.flatMap_cons, List.flatMap_nil, encPt_K]; rfl) rfl (by simp -implicitDefEqProofs only [go_sem, seval, ↓reduceIte, ne1, ne3, ne5, ne8]) (roomOk_of (by omega) (by simp; omega)) fun o2 g2 ho2 => ?_
              have ho2' : o2 = 44 ∨ o2 = 52 := by rcases ho2 with rfl | rfl; · { exact ho }; · exact .inr rfl
              obtain ⟨me1, me2, me3, me4, me5, me6, me7, me8, me9, me10⟩ := hne ho2'
              simp -implicitDefEqProofs only [go_sem, seval, ↓reduceIte, me1, me2, me3, me4, me5, me6, me7, me8, me9, me10]
              refine hK8 _ ((o2, g2), l ++ [p.ks.l[k]]) ⟨ho2', by rw [← hR']; simp⟩ (Weak.st (by simp -implicitDefEqProofs only [go_sem, seval, ↓reduceIte]) (by simp -implicitDefEqProofs only [go_sem, seval, ↓reduceIte, me1, me2, me3, me4, me5, me6, me7, me8, me9, me10]))
          · refine AW.seq_k fun K hK => AW.region (by kernel_rfl) ?_
            simp -implicitDefEqProofs only [go_sem, seval, ↓reduceIte, decide_eq_false hp1]
            refine hK _ ?_
            clear hK K
            refine AW.condS (by simp -implicitDefEqProofs only [go_sem, seval, ↓reduceIte]; rfl) (fun h9 => ?_) (fun h9 => ?_)
            · simp at h9
            · refine AW.region (by kernel_rfl) ?_
              simp -implicitDefEqProofs only [go_sem, seval, ↓reduceIte, hgi, ne1, ne2, ne3, ne4, ne5, ne6]
              intro g51
              refine app_grown2 (f := encPt .any) (l := l) (l2 := [p.ks.l[k]]) (o := o) (g := gx) (encPt_cells _) rfl (by simp only [List.map_cons, List.map_nil, flat, List.flatMap_cons, List.flatMap_nil, encPt_K]; rfl) rfl (by simp -implicitDefEqProofs only [go_sem, seval, ↓reduceIte, ne1, ne3, ne5, ne8]) (roomOk_of (by omega) (by simp; omega)) fun o2 g2 ho2 => ?_
              have ho2' : o2 = 44 ∨ o2 = 52 := by rcases ho2 with rfl | rfl; · { exact ho }; · exact .inr rfl
              obtain ⟨me1, me2, me3, me4, me5, me6, me7, me8, me9, me10⟩ := hne ho2'
              simp -implicitDefEqProofs only [go_sem, seval, ↓reduceIte, me1, me2, me3, me4, me5, me6, me7, me8, me9, me10]
              refine hK8 _ ((o2, g2), l ++ [p.ks.l[k]]) ⟨ho2', by rw [← hR']; simp⟩ (Weak.st (by simp -implicitDefEqProofs only [go_sem, seval, ↓reduceIte]) (by simp -implicitDefEqProofs only [go_sem, seval, ↓reduceIte, me1, me2, me3, me4, me5, me6, me7, me8, me9, me10]))
      · rintro ⟨⟨o2, g2⟩, m⟩ ⟨ho2, hRm⟩
        obtain ⟨me1, me2, me3, me4, me5, me6, me7, me8, me9, me10⟩ := hne ho2
        refine AW.region (by kernel_rfl) ?_
        simp -implicitDefEqProofs only [go_sem, seval, ↓reduceIte]
        refine hK7 _ ?_
        refine AW.region (by kernel_rfl) ?_
        simp -implicitDefEqProofs only [go_sem, seval, ↓reduceIte]
        refine hL4 _ ⟨hk1, ((o2, g2), m), ⟨ho2, by rw [hnext]; exact hRm⟩, Weak.st (by simp -implicitDefEqProofs only [go_sem, seval, ↓reduceIte]; refine ⟨congrArg _ ?_, congrArg _ (w64 (by omega) (by omega))⟩; rw [hnext, w64 (by omega) (by omega)]) (by simp -implicitDefEqProofs only [go_sem, seval, ↓reduceIte, me1, me2, me3, me4, me5, me6, me7, me8, me9, me10])⟩
    · -- false
      refine AW.exit ?_
      simp -implicitDefEqProofs only [go_sem, seval, ↓reduceIte]
      refine hK3 _ ?_
      have hk1 : k = p.ks.l.length := by simp at h6; omega
      have hR : l = Pt.takes n (fun q l => Pt.take n q l b) b p.ks.l leaf := by
        rw [← hR, hk1]; simp [Pt.takes]
      refine AW.weak (Weak.stF (fun x => x == o) (l := [(3, .ptr 3 g3 0), (6, .ptr 6 g6 0), (7, encSl .new 3 (encPt .any) (grownS l))]) (m := [(3, .cells .new g3 0 [.int .u8 p.op, .int .i64 p.pl, encSl .any 3 (encPt .any) p.ks]), (6, .cells .new g6 0 [.int .u8 0, .int .i64 0, .nils])]) ?_ ?_) ?_
      · simp -implicitDefEqProofs only [go_sem, seval, ↓reduceIte]
        exact ⟨Fz.same _, Fz.same _, Fz.grown (by simp) (by simp -implicitDefEqProofs only [go_sem, seval, ↓reduceIte, ne1, ne3, ne5]) (encPt_cells _)⟩
      · simp only [allFzO_cons, allFzO_nil, and_true]
        exact ⟨FzO.keep (by simp; rcases ho with rfl | rfl <;> simp) (by simp -implicitDefEqProofs only [go_sem, seval, ↓reduceIte, ne2]), FzO.keep (by simp; rcases ho with rfl | rfl <;> simp) (by simp -implicitDefEqProofs only [go_sem, seval, ↓reduceIte, ne6])⟩
      refine AW.weak (Weak.stF (fun x => false) (l := [(3, .ptr 3 g3 0), (6, .ptr 6 g6 0), (7, encSl .any 3 (encPt .any) (grownS l))]) (m := [(3, .cells .new g3 0 [.int .u8 p.op, .int .i64 p.pl, encSl .any 3 (encPt .any) p.ks]), (6, .cells .new g6 0 [.int .u8 0, .int .i64 0, .nils])]) ?_ ?_) ?_
      · simp -implicitDefEqProofs only [go_sem, seval, ↓reduceIte]
        exact ⟨Fz.same _, Fz.same _, Fz.any (by simp -implicitDefEqProofs only [go_sem, seval, ↓reduceIte])⟩
      · simp only [allFzO_cons, allFzO_nil, and_true]
        exact ⟨FzO.keep rfl (by simp -implicitDefEqProofs only [go_sem, seval, ↓reduceIte]), FzO.keep rfl (by simp -implicitDefEqProofs only [go_sem, seval, ↓reduceIte])⟩
      refine AW.seq_k fun K hK => AW.region (by kernel_rfl) ?_
      simp -implicitDefEqProofs only [go_sem, seval, ↓reduceIte]
      refine CallA.pure hG (by kernel_rfl) ?_
      simp -implicitDefEqProofs only [go_sem, seval, ↓reduceIte]
      have hp := rPut_spec G hG p.op (grownS l) (by rw [grownS_l, hR, Pt.takes_len]; omega) (by rw [grownS_l, hR]; exact hfl)
      simp only [encPt_K] at hp
      refine hp.mono ?_
      rintro _ _ rfl
      simp -implicitDefEqProofs only [go_sem, seval, ↓reduceIte]
      refine hK _ ?_
      clear hK K
      refine AW.ret ?_
      simp -implicitDefEqProofs only [go_sem, seval, ↓reduceIte]
      refine endK_some ?_
      rw [Pt.take, if_neg h2', ← hR]
end Go.Hs
end

section
namespace Go.Hs
open Go.Proofs
set_option maxRecDepth 10000
/- hopscotch/steps.all$1 -/
theorem notRight_spec (G : Nat → V) (hG : GOk G) (c1 c2 : Col) (t : Sl Nd) (ht : t.l.length < 1000000000) (hks : ∀ n ∈ t.l, n.kids.l.length < 1000000000) :
    Spec Try.prog G 44 [encTree c1 c2 t] hNone (fun v _ => v = .bool (!rightP t.l)) := by
  refine Spec.of_code' 0 6 [.tmp 2] Try.func44 rfl rfl rfl rfl fun X => ?_
  refine AW.seq_k fun K hK => AW.region (by kernel_rfl) ?_
  simp -implicitDefEqProofs only [go_sem, seval, ↓reduceIte]
  intro g1
  refine hK _ ?_
  clear hK K
  refine AW.seq_k fun K hK => AW.region (by kernel_rfl) ?_
  simp -implicitDefEqProofs only [go_sem, seval, ↓reduceIte]
  refine CallA.pure hG (by kernel_rfl) ?_
  simp -implicitDefEqProofs only [go_sem, seval, ↓reduceIte]
  refine (right_spec G hG _ _ t ht hks).mono ?_
  rintro _ _ rfl
  simp -implicitDefEqProofs only [go_sem, seval, ↓reduceIte]
  refine hK _ ?_
  clear hK K
  refine AW.ret ?_
  simp -implicitDefEqProofs only [go_sem, seval, ↓reduceIte]
  refine endK_some ?_
  rfl
/-- What InOrder and Beside yield. -/
def allP (op : Int) (L : List (List Nd)) : List Nd := if L.all rightP = true then putS op L else []
/- hopscotch/steps.all -/
theorem all_spec (G : Nat → V) (hG : GOk G) (c0 c1 c2 : Col) (op : Int) (l : Sl (Sl Nd)) (hl : l.l.length < 1000000000) (ht : ∀ t ∈ l.l, t.l.length < 1000000000) (hks : ∀ t ∈ l.l, ∀ n ∈ t.l, n.kids.l.length < 1000000000)
    (hok : (l.l.map Sl.l).all rightP = true → PutOk op l) :
    Spec Try.prog G 38 [.int .u8 op, encSl c0 1 (encTree c1 c2) l] hNone (fun v _ => v = encTree .new .new (grownS (allP op (l.l.map Sl.l)))) := by
  refine Spec.of_code' 0 11 [ResultVar.cell 4 24] Try.func38 rfl rfl rfl rfl fun X => ?_
  refine AW.seq_k fun K hK => AW.region (by kernel_rfl) ?_
  simp -implicitDefEqProofs only [go_sem, seval, ↓reduceIte]
  intro g4
  refine hK _ ?_
  clear hK K
  refine AW.seq_k fun K1 hK1 => ?_
  refine AW.seq_k fun K hK => AW.region (by kernel_rfl) ?_
  simp -implicitDefEqProofs only [go_sem, seval, ↓reduceIte]
  refine CallA.pure hG (by kernel_rfl) ?_
  simp -implicitDefEqProofs only [go_sem, seval, ↓reduceIte, List.map_nil]
  refine (fTContains_spec G hG _ _ _ l hl 44 [] (by kernel_rfl) (fun t => !rightP t.l) rfl (fun c1 c2 t h => notRight_spec G hG c1 c2 t (ht t h) (hks t h))).mono ?_
  rintro _ _ rfl
  have hany : (l.l.any fun t => !rightP t.l) = !((l.l.map Sl.l).all rightP) := by
    rw [List.all_map, List.not_all_eq_any_not]
    rfl
  rw [hany]
  simp -implicitDefEqProofs only [go_sem, seval, ↓reduceIte]
  refine hK _ ?_
  clear hK K
  refine AW.condS (by simp -implicitDefEqProofs only [go_sem, seval, ↓reduceIte]; rfl) (fun h2 => ?_) (fun h2 => ?_)
  · have h2' : ¬ (l.l.map Sl.l).all rightP = true := by intro e; rw [e] at h2; simp at h2
    refine AW.seq_k fun K hK => AW.region (by kernel_rfl) ?_
    simp -implicitDefEqProofs only [go_sem, seval, ↓reduceIte]
    refine hK _ ?_
    clear hK K
    refine AW.ret ?_
    simp -implicitDefEqProofs only [go_sem, seval, ↓reduceIte]
    refine endK_some ?_
    rw [allP, if_neg h2']
    rfl
  · have h2' : (l.l.map Sl.l).all rightP = true := by simpa using h2
    refine AW.skip ?_
    simp -implicitDefEqProofs only [go_sem, seval, ↓reduceIte]
    refine hK1 _ ?_
    refine AW.seq_k fun K hK => AW.region (by kernel_rfl) ?_
    simp -implicitDefEqProofs only [go_sem, seval, ↓reduceIte]
    refine CallA.pure hG (by kernel_rfl) ?_
    simp -implicitDefEqProofs only [go_sem, seval, ↓reduceIte]
    refine (put_spec G hG _ _ _ op l (hok h2')).mono ?_
    rintro _ _ rfl
    simp -implicitDefEqProofs only [go_sem, seval, ↓reduceIte]
    refine hK _ ?_
    clear hK K
    refine AW.ret ?_
    simp -implicitDefEqProofs only [go_sem, seval, ↓reduceIte]
    refine endK_some ?_
    rw [allP, if_pos h2']
theorem inOrder_spec (G : Nat → V) (hG : GOk G) (c0 c1 c2 : Col) (l : Sl (Sl Nd)) (hl : l.l.length < 1000000000) (ht : ∀ t ∈ l.l, t.l.length < 1000000000) (hks : ∀ t ∈ l.l, ∀ n ∈ t.l, n.kids.l.length < 1000000000)
    (hok : (l.l.map Sl.l).all rightP = true → PutOk 1 l) :
    Spec Try.prog G 22 [encSl c0 1 (encTree c1 c2) l] hNone (fun v _ => v = encTree .new .new (grownS (allP 1 (l.l.map Sl.l)))) := by
  refine Spec.of_code' 0 5 [ResultVar.cell 2 24] Try.func22 rfl rfl rfl rfl fun X => ?_
  refine AW.seq_k fun K hK => AW.region (by kernel_rfl) ?_
  simp -implicitDefEqProofs only [go_sem, seval, ↓reduceIte]
  intro g2
  refine hK _ ?_
  clear hK K
  refine AW.seq_k fun K hK => AW.region (by kernel_rfl) ?_
  simp -implicitDefEqProofs only [go_sem, seval, ↓reduceIte]
  refine CallA.pure hG (by kernel_rfl) ?_
  simp -implicitDefEqProofs only [go_sem, seval, ↓reduceIte]
  refine (all_spec G hG _ _ _ 1 l hl ht hks hok).mono ?_
  rintro _ _ rfl
  simp -implicitDefEqProofs only [go_sem, seval, ↓reduceIte]
  refine hK _ ?_
  clear hK K
  refine AW.ret ?_
  simp -implicitDefEqProofs only [go_sem, seval, ↓reduceIte]
  refine endK_some ?_
  rfl
theorem beside_spec (G : Nat → V) (hG : GOk G) (c0 c1 c2 : Col) (l : Sl (Sl Nd)) (hl : l.l.length < 1000000000) (ht : ∀ t ∈ l.l, t.l.length < 1000000000) (hks : ∀ t ∈ l.l, ∀ n ∈ t.l, n.kids.l.length < 1000000000)
    (hok : (l.l.map Sl.l).all rightP = true → PutOk 2 l) :
    Spec Try.prog G 23 [encSl c0 1 (encTree c1 c2) l] hNone (fun v _ => v = encTree .new .new (grownS (allP 2 (l.l.map Sl.l)))) := by
  refine Spec.of_code' 0 5 [ResultVar.cell 2 24] Try.func23 rfl rfl rfl rfl fun X => ?_
  refine AW.seq_k fun K hK => AW.region (by kernel_rfl) ?_
  simp -implicitDefEqProofs only [go_sem, seval, ↓reduceIte]
  intro g2
  refine hK _ ?_
  clear hK K
  refine AW.seq_k fun K hK => AW.region (by kernel_rfl) ?_
  simp -implicitDefEqProofs only [go_sem, seval, ↓reduceIte]
  refine CallA.pure hG (by kernel_rfl) ?_
  simp -implicitDefEqProofs only [go_sem, seval, ↓reduceIte]
  refine (all_spec G hG _ _ _ 2 l hl ht hks hok).mono ?_
  rintro _ _ rfl
  simp -implicitDefEqProofs only [go_sem, seval, ↓reduceIte]
  refine hK _ ?_
  clear hK K
  refine AW.ret ?_
  simp -implicitDefEqProofs only [go_sem, seval, ↓reduceIte]
  refine endK_some ?_
  rfl
end Go.Hs
end

section
/- What steps.Take and steps.InOrder yield, against the reference. -/
namespace Go.Hs
mutual
theorem ready_leaf {l : List Nd} : ∀ (t : T) (b : Nat), t.good → Seg l b (t.vrow b) → ∀ x ∈ t.ready b, (b : Int) ≤ x ∧ x < ((b + t.sz : Nat) : Int) ∧ ∃ n, l[x.toNat]? = some n ∧ n.op ≥ 3
  | .mk op pl k, b, hg, hs, x, hx => by
    obtain ⟨n, hn, e1', _, _⟩ := hs.root
    have e1 : n.op = op := e1'
    clear e1'
    rw [T.vrow, Seg.app] at hs
    rw [T.sz] at hn ⊢
    rw [T.ready] at hx
    rw [T.good] at hg
    rcases hg with ⟨h1, h2, rfl⟩ | ⟨h1, rfl, h2, h3⟩
    · rw [if_pos h1, List.mem_singleton] at hx
      subst hx
      have e9 : T.szs [] = 0 := rfl
      exact ⟨by omega, by omega, n, hn, by omega⟩
    · rw [if_neg (by omega)] at hx
      have := readys_leaf op true k b h3 hs.1 x hx
      exact ⟨this.1, by omega, this.2.2⟩
theorem readys_leaf {l : List Nd} (op : Int) (first : Bool) : ∀ (k : List T) (b : Nat), T.goods op k → Seg l b (T.vrows k b) → ∀ x ∈ T.readys op first k b, (b : Int) ≤ x ∧ x < ((b + T.szs k : Nat) : Int) ∧ ∃ n, l[x.toNat]? = some n ∧ n.op ≥ 3
  | [], _, _, _, x, hx => by simp [T.readys] at hx
  | p :: r, b, hg, hs, x, hx => by
    rw [T.goods] at hg
    rw [T.vrows, Seg.app, T.vrow_len] at hs
    have hsz := (T.good_full p hg.1).2
    rw [T.readys, hsz, List.mem_append] at hx
    rw [T.szs]
    rcases hx with hx | hx
    · split at hx
      · have := ready_leaf p b hg.1 hs.1 x hx
        exact ⟨this.1, by omega, this.2.2⟩
      · cases hx
    · have := readys_leaf op false r (b + p.sz) hg.2.2 hs.2 x hx
      exact ⟨by omega, by omega, this.2.2⟩
end
mutual
theorem ready_count : ∀ (t : T) (b : Nat), t.good → (t.ready b).length ≤ t.sz
  | .mk op pl k, b, hg => by
    rw [T.ready, T.sz]
    split
    · simp
    · rw [T.good] at hg
      have h3 : T.goods op k := by
        rcases hg with h | h
        · omega
        · exact h.2.2.2
      have := readys_count op true k b h3
      omega
theorem readys_count (op : Int) (first : Bool) : ∀ (k : List T) (b : Nat), T.goods op k → (T.readys op first k b).length ≤ T.szs k
  | [], _, _ => by simp [T.readys]
  | p :: r, b, h => by
    rw [T.goods] at h
    have h1 := ready_count p b h.1
    have h2 := readys_count op false r (b + p.size) h.2.2
    rw [T.readys, List.length_append, T.szs]
    split
    · omega
    · simp; omega
end
theorem readyP_len (l : List Nd) : (readyP l).length ≤ l.length := by
  by_cases h : rightP l = true
  · obtain ⟨t, ht⟩ := RowIs.of_right h
    rw [ht.ready]
    by_cases h0 : t.op = 0
    · rw [if_pos h0]; simp
    · rw [if_neg h0]
      rcases ht with ⟨rfl, _⟩ | ⟨h1, h2⟩
      · exact absurd rfl h0
      · have := ready_count t 0 h1
        rw [← List.length_map Nd.v, h2, T.vrow_len]
        exact this
  · rw [readyP, if_pos (.inr (by simpa using h))]; simp
/-- **Take is take.** -/
theorem take_law {l br : List Nd} {t B : T} {leaf : Int} (h : RowIs l t) (hb : RowIs br B) (hr : leaf ∈ readyP l) (hz : t.sz + B.sz < 999999999) :
    RowIs (takeP l leaf br) (t.tk leaf B) ∧ TakeOk l leaf br l.length (l.length - 1) := by
  have hc : (readyP l).contains leaf = true := by simpa using hr
  rw [takeP, if_pos ⟨hb.right, hc⟩]
  have hready := h.ready
  rcases h with ⟨rfl, rfl⟩ | ⟨hg, hv⟩
  · have hr : leaf ∈ ([] : List Int) := hr
    cases hr
  · have hl : l.length = t.sz := by rw [← List.length_map Nd.v, hv, T.vrow_len]
    have hs : Seg l 0 (t.vrow 0) := by intro j x hj; rw [hv, Nat.zero_add, hj]
    rw [hready, if_neg (T.good_op hg)] at hr
    obtain ⟨h1, h2, n, hn, h3⟩ := ready_leaf t 0 hg hs leaf hr
    have := take_tree hb (leaf := leaf) (l := l) (fun m hm => by rw [hn] at hm; cases hm; exact h3) (by omega) t 0 l.length hg hs (by omega) hz
    rw [if_pos ⟨h1, h2⟩, Nat.zero_add, ← hl] at this
    simpa using this
/-! ### The reference's Take -/
theorem Pt.takes_v (n : Nat) (f : Pt → Int → Pt) (b : Pt) : ∀ (l : List Pt) (leaf : Int), (∀ q ∈ l, ∀ x, (f q x).v = q.v.tk x b.v) → (Pt.takes n f b l leaf).map Pt.v = T.tks (l.map Pt.v) leaf b.v
  | [], _, _ => rfl
  | p :: r, leaf, h => by
    rw [Pt.takes, List.map_cons, List.map_cons, T.tks, Pt.takes_v n f b r _ fun q hq => h q (by simp [hq])]
    congr 1
    split
    · exact h p (by simp) leaf
    · rfl
theorem Pt.take_v (b : Pt) : ∀ (n : Nat) (p : Pt) (leaf : Int), p.dep ≤ n → (Pt.take n p leaf b).v = p.v.tk leaf b.v
  | 0, p, _, h => by obtain ⟨_, _, _, _⟩ := p; simp [Pt.dep] at h
  | n + 1, p, leaf, h => by
    rw [Pt.take, Pt.v_K p, T.tk]
    split
    · rfl
    · rw [Pt.put_v, Pt.takes_v n _ b p.ks.l leaf fun q hq x => Pt.take_v b n q x (by have := Pt.dep_kid hq; omega)]
theorem flatMap_v (op : Int) (l : List Pt) : (l.flatMap (Pt.putKids op)).map Pt.v = (l.map Pt.v).flatMap (Hs.putKids op) := by
  rw [List.map_flatMap, List.flatMap_map]
  simp only [Pt.putKids_v]
theorem takeOk_of {b : Pt} : ∀ (n : Nat) (p : Pt) (leaf : Int), p.dep ≤ n → p.v.good → p.v.sz + b.v.sz < 1000000000 → takeOk n p leaf b
  | 0, p, _, h, _, _ => by obtain ⟨_, _, _, _⟩ := p; simp [Pt.dep] at h
  | n + 1, p, leaf, h, hg, hz => by
    rw [takeOk]
    by_cases h3 : p.op ≥ 3
    · exact .inl h3
    · have hf := T.good_full _ hg
      have hk : T.goods p.op (p.ks.l.map Pt.v) ∧ p.v.sz = T.szs (p.ks.l.map Pt.v) + 1 := by
        rw [Pt.v_K] at hg ⊢
        rw [T.good] at hg
        refine ⟨?_, by rw [T.sz]⟩
        rcases hg with hg | hg
        · omega
        · exact hg.2.2.2
      refine .inr ⟨hf.1, by rw [hf.2]; omega, ?_, fun k hk1 _ _ => ?_⟩
      · rw [← List.length_map Pt.v, flatMap_v, Pt.takes_v n _ b p.ks.l leaf fun q hq x => Pt.take_v b n q x (by have := Pt.dep_kid hq; omega)]
        have h4 := tks_sz p.op (p.ks.l.map Pt.v) leaf b.v hk.1
        have h5 := put_szs p.op (T.tks (p.ks.l.map Pt.v) leaf b.v)
        have h6 := T.szs_len ((T.tks (p.ks.l.map Pt.v) leaf b.v).flatMap (Hs.putKids p.op))
        omega
      · have hm := List.getElem_mem hk1
        have hgk := ((T.goods_iff _ _).1 hk.1 _ (List.mem_map_of_mem hm)).1
        have hsz : (p.ks.l[k]).v.sz ≤ T.szs (p.ks.l.map Pt.v) := by
          have : ∀ (l : List T) (t : T), t ∈ l → t.sz ≤ T.szs l := by
            intro l
            induction l with
            | nil => intro t ht; cases ht
            | cons q r ih =>
              intro t ht
              rw [T.szs]
              rcases List.mem_cons.1 ht with rfl | ht
              · omega
              · have := ih t ht; omega
          exact this _ _ (List.mem_map_of_mem hm)
        exact takeOk_of n _ _ (by have := Pt.dep_kid hm; omega) hgk (by omega)
end Go.Hs
end

section
namespace Go.Hs
open Go.Proofs
set_option maxRecDepth 10000
def wT1 : List Nd := allP 1 [leafN 4 1, leafN 5 4]
def wT : List Nd := allP 1 [leafN 3 3, [], wT1]
def wU1 : List Nd := allP 2 [leafN 3 3, leafN 3 6]
def wU : List Nd := allP 1 [wU1, leafN 3 1]
def wV : List Nd := takeP wU 0 []
theorem wT1_eq : wT1 = [⟨4, 1, .mk false []⟩, ⟨5, 4, .mk false []⟩, ⟨1, 0, .mk false [0, 1]⟩] := by rfl
theorem wT_eq : wT = [⟨3, 3, .mk false []⟩, ⟨4, 1, .mk false []⟩, ⟨5, 4, .mk false []⟩, ⟨1, 0, .mk false [0, 1, 2]⟩] := by rfl
theorem wU1_eq : wU1 = [⟨3, 3, .mk false []⟩, ⟨3, 6, .mk false []⟩, ⟨2, 0, .mk false [0, 1]⟩] := by rfl
theorem wU_eq : wU = [⟨3, 3, .mk false []⟩, ⟨3, 6, .mk false []⟩, ⟨2, 0, .mk false [0, 1]⟩, ⟨3, 1, .mk false []⟩, ⟨1, 0, .mk false [2, 3]⟩] := by rfl
theorem wV_eq : wV = [⟨3, 6, .mk false []⟩, ⟨3, 1, .mk false []⟩, ⟨1, 0, .mk false [0, 1]⟩] := by rfl
theorem rowsIs_of : ∀ L : List (List Nd), L.all rightP = true → ∃ Ts, RowsIs L Ts ∧ T.szs Ts ≤ (L.map List.length).sum + L.length
  | [], _ => ⟨[], trivial, by simp [T.szs]⟩
  | r :: L, h => by
    rw [List.all_cons, Bool.and_eq_true] at h
    obtain ⟨Ts, h1, h2⟩ := rowsIs_of L h.2
    obtain ⟨t, ht⟩ := RowIs.of_right h.1
    refine ⟨t :: Ts, ⟨ht, h1⟩, ?_⟩
    rw [T.szs, List.map_cons, List.sum_cons, List.length_cons]
    rcases ht with ⟨rfl, rfl⟩ | ⟨h3, h4⟩
    · simp [T.zero, T.sz, T.szs]; omega
    · have : r.length = t.sz := by rw [← List.length_map Nd.v, h4, T.vrow_len]
      omega
/-- What InOrder and Beside need: the rows are small. -/
theorem allOk {op : Int} (hop : op = 1 ∨ op = 2) {l : Sl (Sl Nd)} (h : ((l.l.map Sl.l).map List.length).sum + l.l.length < 1000000000) : (l.l.map Sl.l).all rightP = true → PutOk op l := by
  intro hr
  obtain ⟨Ts, h1, h2⟩ := rowsIs_of _ hr
  rw [List.length_map] at h2
  exact putOk_of hop h1 (by omega)
theorem RowIs.sz_le {l : List Nd} {t : T} (h : RowIs l t) : t.sz ≤ l.length + 1 := by
  rcases h with ⟨rfl, rfl⟩ | ⟨h1, h2⟩
  · simp [T.zero, T.sz, T.szs]
  · rw [← List.length_map Nd.v, h2, T.vrow_len]; omega
theorem takeOk_all {l br : List Nd} {leaf : Int} (hz : l.length + br.length < 900000000) (h : rightP br = true ∧ (readyP l).contains leaf = true) : TakeOk l leaf br l.length (l.length - 1) := by
  have hr : rightP l = true := by
    cases hr : rightP l with
    | true => rfl
    | false => rw [readyP, if_pos (.inr hr)] at h; simp at h
  obtain ⟨t, ht⟩ := RowIs.of_right hr
  obtain ⟨B, hB⟩ := RowIs.of_right h.1
  have h1 := ht.sz_le
  have h2 := hB.sz_le
  exact (take_law ht hB (by simpa using h.2) (by omega)).2
theorem im_int {k : IntKind} (x : Int) : ∀ y ∈ (V.int k x).cells, y.Im := fun y hy => by simp [V.cells] at hy; subst hy; exact .int _ _
/- hopscotchlaw22.works -/
theorem works_spec (G : Nat → V) (hG : GOk G) : Spec Try.prog G 7 [] hNone (fun v _ => v = .bool true) := by
  refine Spec.of_code' 0 69 [.tmp 0] Try.func7 rfl rfl rfl rfl fun X => ?_
  refine AW.seq_k fun K hK => AW.region (by kernel_rfl) ?_
  simp -implicitDefEqProofs only [go_sem, seval, ↓reduceIte]
  refine hK _ ?_
  clear hK K
  refine AW.seq_k fun K hK => AW.region (by kernel_rfl) ?_
  simp -implicitDefEqProofs only [go_sem, seval, ↓reduceIte]
  refine CallA.pure hG (by kernel_rfl) ?_
  simp -implicitDefEqProofs only [go_sem, seval, ↓reduceIte, List.map_cons, List.map_nil]
  refine (leaf_spec G hG 3 3).mono ?_
  rintro _ _ rfl
  simp -implicitDefEqProofs only [go_sem, seval, ↓reduceIte]
  refine CallA.pure hG (by kernel_rfl) ?_
  simp -implicitDefEqProofs only [go_sem, seval, ↓reduceIte, List.map_cons, List.map_nil]
  refine (leaf_spec G hG 4 1).mono ?_
  rintro _ _ rfl
  simp -implicitDefEqProofs only [go_sem, seval, ↓reduceIte]
  refine CallA.pure hG (by kernel_rfl) ?_
  simp -implicitDefEqProofs only [go_sem, seval, ↓reduceIte, List.map_cons, List.map_nil]
  refine (leaf_spec G hG 5 4).mono ?_
  rintro _ _ rfl
  simp -implicitDefEqProofs only [go_sem, seval, ↓reduceIte]
  intro g8
  refine CallA.frzL (fun o => o == 8) [encSl .new 1 (encTree .new .new) (.mk false [grownS (leafN 4 1), grownS (leafN 5 4)])] [] ⟨Fz.sl (f := encTree .new .new) (l := [grownS (leafN 4 1), grownS (leafN 5 4)]) (g := g8) (fz := 0) (c := .new) rfl (by simp -implicitDefEqProofs only [go_sem, seval, ↓reduceIte]; try rfl) (fun _ => rfl), trivial⟩ (by first | trivial | exact ⟨FzO.keep rfl (by simp -implicitDefEqProofs only [go_sem, seval, ↓reduceIte]; try rfl), trivial⟩) ?_
  refine CallA.pure hG (by kernel_rfl) ?_
  simp -implicitDefEqProofs only [go_sem, seval, ↓reduceIte, List.map_cons, List.map_nil]
  refine (inOrder_spec G hG _ _ _ (.mk false [grownS (leafN 4 1), grownS (leafN 5 4)]) (by decide) (by decide) (by decide) (allOk (by decide) (by decide))).mono ?_
  rintro _ _ rfl
  simp -implicitDefEqProofs only [go_sem, seval, ↓reduceIte]
  intro g10
  refine CallA.frzL (fun o => o == 10) [encSl .new 1 (encTree .new .new) (.mk false [grownS (leafN 3 3), .nil, grownS (allP 1 [leafN 4 1, leafN 5 4])])] [] ⟨Fz.sl (f := encTree .new .new) (l := [grownS (leafN 3 3), .nil, grownS (allP 1 [leafN 4 1, leafN 5 4])]) (g := g10) (fz := 0) (c := .new) rfl (by simp -implicitDefEqProofs only [go_sem, seval, ↓reduceIte]; try rfl) (fun _ => rfl), trivial⟩ (by first | trivial | exact ⟨FzO.keep rfl (by simp -implicitDefEqProofs only [go_sem, seval, ↓reduceIte]; try rfl), trivial⟩) ?_
  refine CallA.pure hG (by kernel_rfl) ?_
  simp -implicitDefEqProofs only [go_sem, seval, ↓reduceIte, List.map_cons, List.map_nil]
  refine (inOrder_spec G hG _ _ _ (.mk false [grownS (leafN 3 3), .nil, grownS (allP 1 [leafN 4 1, leafN 5 4])]) (by decide) (by decide) (by decide) (allOk (by decide) (by decide))).mono ?_
  rintro _ _ rfl
  simp -implicitDefEqProofs only [go_sem, seval, ↓reduceIte]
  have eT : allP 1 [leafN 3 3, [], allP 1 [leafN 4 1, leafN 5 4]] = wT := rfl
  simp -implicitDefEqProofs only [go_sem, seval, ↓reduceIte, List.map_cons, List.map_nil, eT]
  intro g1
  refine hK _ ?_
  clear hK K
  refine AW.seq_k fun K hK => AW.region (by kernel_rfl) ?_
  simp -implicitDefEqProofs only [go_sem, seval, ↓reduceIte]
  refine CallA.pure hG (by kernel_rfl) ?_
  simp -implicitDefEqProofs only [go_sem, seval, ↓reduceIte, List.map_cons, List.map_nil]
  refine (leaf_spec G hG 3 3).mono ?_
  rintro _ _ rfl
  simp -implicitDefEqProofs only [go_sem, seval, ↓reduceIte]
  refine CallA.pure hG (by kernel_rfl) ?_
  simp -implicitDefEqProofs only [go_sem, seval, ↓reduceIte, List.map_cons, List.map_nil]
  refine (leaf_spec G hG 3 6).mono ?_
  rintro _ _ rfl
  simp -implicitDefEqProofs only [go_sem, seval, ↓reduceIte]
  intro g14
  refine CallA.frzL (fun o => o == 14) [encSl .new 1 (encTree .new .new) (.mk false [grownS (leafN 3 3), grownS (leafN 3 6)])] [(1, .cells .new g1 0 [encSl .new 3 (encNd .new) (grownS wT)])] ⟨Fz.sl (f := encTree .new .new) (l := [grownS (leafN 3 3), grownS (leafN 3 6)]) (g := g14) (fz := 0) (c := .new) rfl (by simp -implicitDefEqProofs only [go_sem, seval, ↓reduceIte]; try rfl) (fun _ => rfl), trivial⟩ (by first | trivial | exact ⟨FzO.keep rfl (by simp -implicitDefEqProofs only [go_sem, seval, ↓reduceIte]; try rfl), trivial⟩) ?_
  refine CallA.pure hG (by kernel_rfl) ?_
  simp -implicitDefEqProofs only [go_sem, seval, ↓reduceIte, List.map_cons, List.map_nil]
  refine (beside_spec G hG _ _ _ (.mk false [grownS (leafN 3 3), grownS (leafN 3 6)]) (by decide) (by decide) (by decide) (allOk (by decide) (by decide))).mono ?_
  rintro _ _ rfl
  simp -implicitDefEqProofs only [go_sem, seval, ↓reduceIte]
  refine CallA.pure hG (by kernel_rfl) ?_
  simp -implicitDefEqProofs only [go_sem, seval, ↓reduceIte, List.map_cons, List.map_nil]
  refine (leaf_spec G hG 3 1).mono ?_
  rintro _ _ rfl
  simp -implicitDefEqProofs only [go_sem, seval, ↓reduceIte]
  intro g17
  refine CallA.frzL (fun o => o == 17) [encSl .new 1 (encTree .new .new) (.mk false [grownS (allP 2 [leafN 3 3, leafN 3 6]), grownS (leafN 3 1)])] [(1, .cells .new g1 0 [encSl .new 3 (encNd .new) (grownS wT)])] ⟨Fz.sl (f := encTree .new .new) (l := [grownS (allP 2 [leafN 3 3, leafN 3 6]), grownS (leafN 3 1)]) (g := g17) (fz := 0) (c := .new) rfl (by simp -implicitDefEqProofs only [go_sem, seval, ↓reduceIte]; try rfl) (fun _ => rfl), trivial⟩ (by first | trivial | exact ⟨FzO.keep rfl (by simp -implicitDefEqProofs only [go_sem, seval, ↓reduceIte]; try rfl), trivial⟩) ?_
  refine CallA.pure hG (by kernel_rfl) ?_
  simp -implicitDefEqProofs only [go_sem, seval, ↓reduceIte, List.map_cons, List.map_nil]
  refine (inOrder_spec G hG _ _ _ (.mk false [grownS (allP 2 [leafN 3 3, leafN 3 6]), grownS (leafN 3 1)]) (by decide) (by decide) (by decide) (allOk (by decide) (by decide))).mono ?_
  rintro _ _ rfl
  simp -implicitDefEqProofs only [go_sem, seval, ↓reduceIte]
  have eU : allP 1 [allP 2 [leafN 3 3, leafN 3 6], leafN 3 1] = wU := rfl
  simp -implicitDefEqProofs only [go_sem, seval, ↓reduceIte, List.map_cons, List.map_nil, eU]
  intro g2
  refine hK _ ?_
  clear hK K
  refine AW.seq_k fun K hK => AW.region (by kernel_rfl) ?_
  simp -implicitDefEqProofs only [go_sem, seval, ↓reduceIte]
  refine CallA.pure hG (by kernel_rfl) ?_
  simp -implicitDefEqProofs only [go_sem, seval, ↓reduceIte, List.map_cons, List.map_nil]
  refine (take_spec G hG _ _ .old .old (grownS wU) 0 .nil (by decide) (by decide) (by decide) (by decide) (by decide) (takeOk_all (by decide))).mono ?_
  rintro _ _ rfl
  have eV : takeP wU 0 [] = wV := rfl
  simp -implicitDefEqProofs only [go_sem, seval, ↓reduceIte, grownS_l, eV]
  intro g3
  refine hK _ ?_
  clear hK K
  have hTl : (wT.length : Int) = 4 := rfl
  have hT3 : wT[3]? = some ⟨1, 0, .mk false [0, 1, 2]⟩ := rfl
  have hVl : (wV.length : Int) = 3 := rfl
  have hV0 : wV[0]? = some ⟨3, 6, .mk false []⟩ := rfl
  have hU : readyP wU = [0, 1] := rfl
  have hV : readyP wV = [0] := rfl
  have b4 : ((4 : Int) == 4) = true := rfl
  have b3 : ((3 : Int) == 3) = true := rfl
  have b1 : ((1 : Int) == 1) = true := rfl
  have b6 : ((6 : Int) == 6) = true := rfl
  have i012 : ([0, 1, 2] : List Int).length = 3 := rfl
  refine AW.seq_k fun K hK => AW.region (by kernel_rfl) ?_
  simp -implicitDefEqProofs only [go_sem, seval, ↓reduceIte, hTl, hT3, b4, b1]
  intro g40
  refine CallA.bor hG [encSl .old 1 (V.int .i64) (.mk false [0, 1, 2]), encSl .old 1 (V.int .i64) (.mk false [0, 1, 2])] (by kernel_rfl) ⟨Rd.im (Im.ints _) (by simp -implicitDefEqProofs only [go_sem, seval, ↓reduceIte]; try rfl), Rd.msl (off := 0) (n := 3) (l := [0, 1, 2]) (f := V.int .i64) (f' := V.int .i64) (g := g40) (fz := 0) (c := .new) (by simp -implicitDefEqProofs only [go_sem, seval, ↓reduceIte]; try rfl) (fun _ => rfl) im_int (fun _ => rfl) (by decide), trivial⟩ ?_
  refine (sameInts_spec G hG _ _ (.mk false [0, 1, 2]) (.mk false [0, 1, 2]) (by decide) (by decide)).mono ?_
  rintro _ _ rfl
  refine ⟨.bool _, ?_⟩
  have c1 : ((Sl.mk false ([0, 1, 2] : List Int)).l == (Sl.mk false ([0, 1, 2] : List Int)).l) = true := rfl
  rw [c1]
  simp -implicitDefEqProofs only [go_sem, seval, ↓reduceIte]
  refine CallA.pure hG (by kernel_rfl) ?_
  simp -implicitDefEqProofs only [go_sem, seval, ↓reduceIte]
  refine (ready_spec G hG _ _ (grownS wU) (by decide) (by decide) (by decide)).mono ?_
  rintro _ _ rfl
  simp -implicitDefEqProofs only [go_sem, seval, ↓reduceIte, hU]
  intro g46
  refine CallA.bor hG [encSl .any 1 (V.int .i64) (grownS [0, 1]), encSl .old 1 (V.int .i64) (.mk false [0, 1])] (by kernel_rfl) ⟨Rd.im (Im.ints _) (by simp -implicitDefEqProofs only [go_sem, seval, ↓reduceIte]; try rfl), Rd.msl (off := 0) (n := 2) (l := [0, 1]) (f := V.int .i64) (f' := V.int .i64) (g := g46) (fz := 0) (c := .new) (by simp -implicitDefEqProofs only [go_sem, seval, ↓reduceIte]; try rfl) (fun _ => rfl) im_int (fun _ => rfl) (by decide), trivial⟩ ?_
  refine (sameInts_spec G hG _ _ (grownS [0, 1]) (.mk false [0, 1]) (by decide) (by decide)).mono ?_
  rintro _ _ rfl
  refine ⟨.bool _, ?_⟩
  have c2 : ((grownS ([0, 1] : List Int)).l == (Sl.mk false ([0, 1] : List Int)).l) = true := rfl
  rw [c2]
  simp -implicitDefEqProofs only [go_sem, seval, ↓reduceIte]
  refine CallA.pure hG (by kernel_rfl) ?_
  simp -implicitDefEqProofs only [go_sem, seval, ↓reduceIte]
  refine (ready_spec G hG _ _ (grownS wV) (by decide) (by decide) (by decide)).mono ?_
  rintro _ _ rfl
  simp -implicitDefEqProofs only [go_sem, seval, ↓reduceIte, hV]
  intro g52
  refine CallA.bor hG [encSl .any 1 (V.int .i64) (grownS [0]), encSl .old 1 (V.int .i64) (.mk false [0])] (by kernel_rfl) ⟨Rd.im (Im.ints _) (by simp -implicitDefEqProofs only [go_sem, seval, ↓reduceIte]; try rfl), Rd.msl (off := 0) (n := 1) (l := [0]) (f := V.int .i64) (f' := V.int .i64) (g := g52) (fz := 0) (c := .new) (by simp -implicitDefEqProofs only [go_sem, seval, ↓reduceIte]; try rfl) (fun _ => rfl) im_int (fun _ => rfl) (by decide), trivial⟩ ?_
  refine (sameInts_spec G hG _ _ (grownS [0]) (.mk false [0]) (by decide) (by decide)).mono ?_
  rintro _ _ rfl
  refine ⟨.bool _, ?_⟩
  have c3 : ((grownS ([0] : List Int)).l == (Sl.mk false ([0] : List Int)).l) = true := rfl
  rw [c3]
  simp -implicitDefEqProofs only [go_sem, seval, ↓reduceIte, hVl, hV0, b3, b6]
  refine hK _ ?_
  clear hK K
  refine AW.ret ?_
  simp -implicitDefEqProofs only [go_sem, seval, ↓reduceIte]
  refine endK_some ?_
  rfl
end Go.Hs
end

section
namespace Go.Hs
open Go.Proofs
set_option maxRecDepth 10000

theorem few_spec (G : Nat → V) (hG : GOk G) (c1 c2 : Col) (t : Sl Nd) :
    Spec Try.prog G 6 [encTree c1 c2 t] hNone (fun v _ => v = .bool (fewP t.l)) := by
  refine Spec.of_code' 0 23 [.tmp 2] Try.func6 rfl rfl rfl rfl fun X => ?_
  refine AW.seq_k fun K hK => AW.region (by kernel_rfl) ?_
  simp -implicitDefEqProofs only [go_sem, seval, ↓reduceIte]
  intro g
  refine hK _ ?_
  clear hK K
  refine AW.seq_k fun K hK => ?_
  refine AW.seq_k fun K hK => AW.region (by kernel_rfl) ?_
  simp -implicitDefEqProofs only [go_sem, seval, ↓reduceIte]
  refine hK _ ?_
  clear hK K
  refine AW.condS (by simp -implicitDefEqProofs only [go_sem, seval, ↓reduceIte]; rfl) (fun h => ?_) (fun h => ?_)
  · refine AW.seq_k fun K hK => AW.region (by kernel_rfl) ?_
    simp -implicitDefEqProofs only [go_sem, seval, ↓reduceIte]
    refine hK _ ?_
    clear hK K
    refine AW.ret ?_
    simp -implicitDefEqProofs only [go_sem, seval, ↓reduceIte]
    refine endK_some ?_
    simp at h ⊢
    simp [fewP]; omega
  refine AW.skip ?_
  simp -implicitDefEqProofs only [go_sem, seval, ↓reduceIte]
  refine hK _ ?_
  clear hK K
  have hl : t.l.length ≤ 60 := by simp at h; omega
  refine AW.seq_k fun K1 hK1 => ?_
  refine AW.seq_k fun K hK => AW.region (by kernel_rfl) ?_
  simp -implicitDefEqProofs only [go_sem, seval, ↓reduceIte]
  refine hK _ ?_
  clear hK K
  refine AW.block ?_
  refine AW.for t.l.length (fun k (_ : Unit) => st [(1, .ptr 1 g 0), (3, .int .i64 k)] [(1, .cells .new g 0 [encSl c1 3 (encNd c2) t])]) (fun k _ => (t.l.take k).all (fun n => decide (n.kids.l.length ≤ 20)) = true) 0 () (Nat.zero_le _) (by simp)
    (Weak.st (by simp -implicitDefEqProofs only [go_sem, seval, ↓reduceIte]; try simp) (by simp -implicitDefEqProofs only [go_sem, seval, ↓reduceIte])) ?_
  intro k _ hk hR L hL
  refine AW.seq_k fun K2 hK2 => ?_
  refine AW.seq_k fun K hK => AW.region (by kernel_rfl) ?_
  simp -implicitDefEqProofs only [go_sem, seval, ↓reduceIte]
  refine hK _ ?_
  clear hK K
  refine AW.condS (by simp -implicitDefEqProofs only [go_sem, seval, ↓reduceIte]; rfl) (fun h2 => ?_) (fun h2 => ?_)
  · refine AW.skip ?_
    simp -implicitDefEqProofs only [go_sem, seval, ↓reduceIte]
    refine hK2 _ ?_
    clear hK2 K2
    have hk1 : k < t.l.length := by simpa using h2
    refine AW.seq_k fun K2 hK2 => ?_
    refine AW.block ?_
    refine AW.seq_k fun K hK => AW.region (by kernel_rfl) ?_
    simp -implicitDefEqProofs only [go_sem, seval, ↓reduceIte, List.getElem?_eq_getElem hk1]
    refine hK _ ?_
    clear hK K
    refine AW.condS (by simp -implicitDefEqProofs only [go_sem, seval, ↓reduceIte]; rfl) (fun h3 => ?_) (fun h3 => ?_)
    · refine AW.seq_k fun K hK => AW.region (by kernel_rfl) ?_
      simp -implicitDefEqProofs only [go_sem, seval, ↓reduceIte]
      refine hK _ ?_
      clear hK K
      refine AW.ret ?_
      simp -implicitDefEqProofs only [go_sem, seval, ↓reduceIte]
      refine endK_some ?_
      simp at h3
      refine congrArg V.bool (Eq.symm ?_)
      rw [Bool.eq_false_iff]
      intro e
      simp [fewP] at e
      have := e.2 _ (List.getElem_mem hk1)
      omega
    · refine AW.skip ?_
      simp -implicitDefEqProofs only [go_sem, seval, ↓reduceIte]
      refine hK2 _ ?_
      clear hK2 K2
      refine AW.region (by kernel_rfl) ?_
      simp -implicitDefEqProofs only [go_sem, seval, ↓reduceIte]
      refine hL _ ⟨hk1, (), ?_, Weak.st (by simp -implicitDefEqProofs only [go_sem, seval, ↓reduceIte]; simp; exact w64 (by omega) (by omega)) (by simp -implicitDefEqProofs only [go_sem, seval, ↓reduceIte])⟩
      rw [List.take_succ_eq_append_getElem hk1, List.all_append, hR]
      simp at h3 ⊢
      omega
  · refine AW.exit ?_
    simp -implicitDefEqProofs only [go_sem, seval, ↓reduceIte]
    refine hK1 _ ?_
    have hk1 : k = t.l.length := by simp at h2; omega
    refine AW.seq_k fun K hK => AW.region (by kernel_rfl) ?_
    simp -implicitDefEqProofs only [go_sem, seval, ↓reduceIte]
    refine hK _ ?_
    clear hK K
    refine AW.ret ?_
    simp -implicitDefEqProofs only [go_sem, seval, ↓reduceIte]
    refine endK_some ?_
    subst hk1
    rw [List.take_length] at hR
    simp only [fewP, hR, Bool.and_true]
    simp; omega
end Go.Hs
end

section
/- What the leaves of a tree sum up to. -/
namespace Go.Hs
mutual
def T.lsum (w : Int → Int → Int) : T → Int
  | .mk op pl k => if op ≥ 3 then w op pl else T.lsums w k
def T.lsums (w : Int → Int → Int) : List T → Int
  | [] => 0
  | p :: r => p.lsum w + T.lsums w r
end
/-- The same over a row. -/
def rowSum (w : Int → Int → Int) : List VN → Int
  | [] => 0
  | x :: r => (if x.1 ≥ 3 then w x.1 x.2.1 else 0) + rowSum w r
theorem rowSum_app (w : Int → Int → Int) : ∀ a b : List VN, rowSum w (a ++ b) = rowSum w a + rowSum w b
  | [], b => by simp [rowSum]
  | x :: r, b => by rw [List.cons_append, rowSum, rowSum, rowSum_app w r b]; omega
mutual
theorem rowSum_tree (w : Int → Int → Int) : ∀ (t : T) (b : Nat), t.good → rowSum w (t.vrow b) = t.lsum w
  | .mk op pl k, b, hg => by
    rw [T.vrow, rowSum_app, T.lsum]
    simp only [rowSum]
    rw [T.good] at hg
    rcases hg with ⟨h1, h2, rfl⟩ | ⟨h1, rfl, h2, h3⟩
    · rw [if_pos h1, if_pos h1]
      simp [T.vrows, rowSum]
    · rw [if_neg (by omega), if_neg (by omega), rowSum_trees w op k b h3]
      omega
theorem rowSum_trees (w : Int → Int → Int) (op : Int) : ∀ (k : List T) (b : Nat), T.goods op k → rowSum w (T.vrows k b) = T.lsums w k
  | [], _, _ => rfl
  | p :: r, b, hg => by
    rw [T.goods] at hg
    rw [T.vrows, rowSum_app, T.lsums, rowSum_tree w p b hg.1, rowSum_trees w op r _ hg.2.2]
end
theorem lsums_app (w : Int → Int → Int) : ∀ a b : List T, T.lsums w (a ++ b) = T.lsums w a + T.lsums w b
  | [], b => by simp [T.lsums]
  | x :: r, b => by rw [List.cons_append, T.lsums, T.lsums, lsums_app w r b]; omega
theorem RowIs.sum (w : Int → Int → Int) {l : List Nd} {t : T} (h : RowIs l t) : rowSum w (l.map Nd.v) = t.lsum w := by
  rcases h with ⟨rfl, rfl⟩ | ⟨h1, h2⟩
  · rfl
  · rw [h2, rowSum_tree w t 0 h1]
/-- Nothing, or a tree. -/
def GZ (t : T) : Prop := t = .zero ∨ t.good
theorem put_goods {op : Int} (hop : op = 1 ∨ op = 2) : ∀ Ts : List T, (∀ t ∈ Ts, GZ t) → T.goods op (Ts.flatMap (putKids op))
  | [], _ => trivial
  | t :: r, h => by
    rw [List.flatMap_cons, goods_app]
    refine ⟨?_, put_goods hop r fun q hq => h q (by simp [hq])⟩
    rcases h t (by simp) with rfl | hg
    · unfold putKids
      rw [if_neg (by show ¬ (0 : Int) = op; omega)]
      exact trivial
    · unfold putKids
      by_cases ho : t.op = op
      · rw [if_pos ho]
        obtain ⟨o, pl, k⟩ := t
        have ho : o = op := ho
        subst ho
        rw [T.good] at hg
        rcases hg with hg | hg
        · omega
        · exact hg.2.2.2
      · rw [if_neg ho, if_neg (T.good_op hg)]
        exact ⟨hg, ho, trivial⟩
theorem put_gz {op : Int} (hop : op = 1 ∨ op = 2) {Ts : List T} (h : ∀ t ∈ Ts, GZ t) : GZ (T.put op Ts) := by
  have h3 := put_goods hop Ts h
  unfold T.put
  generalize Ts.flatMap (putKids op) = ks at h3
  match ks, h3 with
  | [], _ => exact .inl rfl
  | [x], h3 => exact .inr h3.1
  | x :: y :: r, h3 => exact .inr (.inr ⟨hop, rfl, by simp, h3⟩)
theorem lsums_put (w : Int → Int → Int) {op : Int} (hop : op = 1 ∨ op = 2) : ∀ Ts : List T, (∀ t ∈ Ts, GZ t) → T.lsums w (Ts.flatMap (putKids op)) = T.lsums w Ts
  | [], _ => rfl
  | t :: r, h => by
    rw [List.flatMap_cons, lsums_app, T.lsums, lsums_put w hop r fun q hq => h q (by simp [hq])]
    congr 1
    rcases h t (by simp) with rfl | hg
    · unfold putKids
      rw [if_neg (by show ¬ (0 : Int) = op; omega)]
      rfl
    · unfold putKids
      by_cases ho : t.op = op
      · rw [if_pos ho]
        obtain ⟨o, pl, k⟩ := t
        have ho : o = op := ho
        show T.lsums w k = _
        rw [T.lsum, if_neg (by omega)]
      · rw [if_neg ho, if_neg (T.good_op hg)]
        simp [T.lsums]
theorem lsum_put (w : Int → Int → Int) {op : Int} (hop : op = 1 ∨ op = 2) (Ts : List T) (h : ∀ t ∈ Ts, GZ t) : (T.put op Ts).lsum w = T.lsums w Ts := by
  rw [← lsums_put w hop Ts h]
  unfold T.put
  generalize Ts.flatMap (putKids op) = ks
  match ks with
  | [] => rfl
  | [x] => simp [T.lsums]
  | x :: y :: r => rw [T.lsum, if_neg (by omega)]
mutual
theorem tk_gz {B : T} (hB : GZ B) : ∀ (t : T) (leaf : Int), t.good → GZ (t.tk leaf B)
  | .mk op pl k, leaf, hg => by
    rw [T.good] at hg
    rw [T.tk]
    split
    · exact hB
    · have h3 : (op = 1 ∨ op = 2) ∧ T.goods op k := by
        rcases hg with h | h
        · omega
        · exact ⟨h.1, h.2.2.2⟩
      exact put_gz h3.1 (tks_gz hB op k leaf h3.2)
theorem tks_gz {B : T} (hB : GZ B) (op : Int) : ∀ (k : List T) (leaf : Int), T.goods op k → ∀ t ∈ T.tks k leaf B, GZ t
  | [], _, _, t, ht => by simp [T.tks] at ht
  | p :: r, leaf, hg, t, ht => by
    rw [T.goods] at hg
    rw [T.tks, List.mem_cons] at ht
    rcases ht with rfl | ht
    · split
      · exact tk_gz hB p leaf hg.1
      · exact .inr hg.1
    · exact tks_gz hB op r _ hg.2.2 t ht
end
mutual
/-- A leaf less. -/
theorem tk_sum (w : Int → Int → Int) {l : List Nd} : ∀ (t : T) (b : Nat), t.good → Seg l b (t.vrow b) → ∀ x ∈ t.ready b, ∀ n, l[x.toNat]? = some n → (t.tk (x - b) .zero).lsum w = t.lsum w - w n.op n.pl
  | .mk op pl k, b, hg, hs, x, hx, m, hm => by
    obtain ⟨n, hn, e1', e2', _⟩ := hs.root
    have e1 : n.op = op := e1'
    have e2 : n.pl = pl := e2'
    rw [T.vrow, Seg.app] at hs
    rw [T.sz] at hn
    rw [T.ready] at hx
    rw [T.tk, T.lsum]
    rw [T.good] at hg
    rcases hg with ⟨h1, h2, rfl⟩ | ⟨h1, rfl, h2, h3⟩
    · rw [if_pos h1, List.mem_singleton] at hx
      subst hx
      have e9 : T.szs [] = 0 := rfl
      rw [show b + (T.szs [] + 1) - 1 = b by omega] at hn
      rw [Int.toNat_natCast, hn] at hm
      cases hm
      rw [if_pos h1, if_pos h1, e1, e2]
      show (0 : Int) = _
      omega
    · rw [if_neg (by omega)] at hx
      rw [if_neg (by omega), if_neg (by omega), lsum_put w h1 _ (tks_gz (.inl rfl) op k _ h3)]
      exact tks_sum w op true k b h3 hs.1 x hx m hm
theorem tks_sum (w : Int → Int → Int) {l : List Nd} (op : Int) (first : Bool) : ∀ (k : List T) (b : Nat), T.goods op k → Seg l b (T.vrows k b) → ∀ x ∈ T.readys op first k b, ∀ n, l[x.toNat]? = some n → T.lsums w (T.tks k (x - b) .zero) = T.lsums w k - w n.op n.pl
  | [], _, _, _, x, hx, _, _ => by simp [T.readys] at hx
  | p :: r, b, hg, hs, x, hx, n, hn => by
    rw [T.goods] at hg
    rw [T.vrows, Seg.app, T.vrow_len] at hs
    have hsz := (T.good_full p hg.1).2
    rw [T.readys, hsz, List.mem_append] at hx
    rw [T.tks, hsz, T.lsums, T.lsums]
    rcases hx with hx | hx
    · split at hx
      · have h1 := ready_leaf p b hg.1 hs.1 x hx
        rw [if_pos (by omega), tks_out op r _ _ hg.2.2 (by omega), tk_sum w p b hg.1 hs.1 x hx n hn]
        omega
      · cases hx
    · have h1 := readys_leaf op false r (b + p.sz) hg.2.2 hs.2 x hx
      have h2 := tks_sum w op false r (b + p.sz) hg.2.2 hs.2 x hx n hn
      rw [if_neg (by omega), show x - (b : Int) - (p.sz : Int) = x - ((b + p.sz : Nat) : Int) by omega, h2]
      omega
end
mutual
theorem cnt_pos : ∀ t : T, t.good → 1 ≤ t.lsum fun _ _ => 1
  | .mk op pl k, hg => by
    rw [T.good] at hg
    rw [T.lsum]
    rcases hg with ⟨h1, _, _⟩ | ⟨h1, _, h2, h3⟩
    · rw [if_pos h1]; omega
    · rw [if_neg (by omega)]
      have := cnts_pos op k h3
      omega
theorem cnts_pos (op : Int) : ∀ k : List T, T.goods op k → (k.length : Int) ≤ T.lsums (fun _ _ => 1) k
  | [], _ => by simp [T.lsums]
  | p :: r, hg => by
    rw [T.goods] at hg
    have h1 := cnt_pos p hg.1
    have h2 := cnts_pos op r hg.2.2
    rw [T.lsums, List.length_cons]
    omega
end
mutual
theorem ready_ne : ∀ (t : T) (b : Nat), t.good → t.ready b ≠ []
  | .mk op pl k, b, hg => by
    rw [T.good] at hg
    rw [T.ready]
    rcases hg with ⟨h1, _, _⟩ | ⟨h1, _, h2, h3⟩
    · rw [if_pos h1]; simp
    · rw [if_neg (by omega)]
      match k, h2, h3 with
      | p :: r, _, h3 =>
        rw [T.goods] at h3
        rw [T.readys, if_pos (.inr rfl)]
        have := ready_ne p b h3.1
        intro e
        rw [List.append_eq_nil_iff] at e
        exact this e.1
end
theorem wrap_add (a b : Int) : IntKind.i64.wrap (IntKind.i64.wrap a + b) = IntKind.i64.wrap (a + b) := by
  unfold IntKind.wrap
  simp [IntKind.signed, IntKind.bits]
  omega
theorem wrap_sub (a b : Int) : IntKind.i64.wrap (IntKind.i64.wrap a - b) = IntKind.i64.wrap (a - b) := by
  unfold IntKind.wrap
  simp [IntKind.signed, IntKind.bits]
  omega
end Go.Hs
end

section
namespace Go.Hs
open Go.Proofs
set_option maxRecDepth 10000

/- hopscotchlaw22.row -/
theorem row_spec (G : Nat → V) (hG : GOk G) (c1 c2 : Col) (t : Sl Nd) (ht : t.l.length < 1000000000) (hkk : ∀ n ∈ t.l, n.kids.l.length < 1000000000) :
    Spec Try.prog G 8 [encTree c1 c2 t] hNone (fun v _ => ∃ r : Sl Nd, v = encNds .new .new r ∧ r.l.map Nd.v = t.l.map Nd.v) := by
  refine Spec.of_code' 0 41 [.tmp 2] Try.func8 rfl rfl rfl rfl fun X => ?_
  refine AW.seq_k fun K hK => AW.region (by kernel_rfl) ?_
  simp -implicitDefEqProofs only [go_sem, seval, ↓reduceIte]
  intro g1
  refine hK _ ?_
  clear hK K
  refine AW.seq_k fun K hK => AW.region (by kernel_rfl) ?_
  simp -implicitDefEqProofs only [go_sem, seval, ↓reduceIte]
  refine hK _ ?_
  clear hK K
  refine AW.seq_k fun K1 hK1 => ?_
  refine AW.seq_k fun K hK => AW.region (by kernel_rfl) ?_
  simp -implicitDefEqProofs only [go_sem, seval, ↓reduceIte]
  refine hK _ ?_
  clear hK K
  refine AW.block ?_
  refine AW.for t.l.length (fun k (x : Nat × List Nd) => st [(1, .ptr 1 g1 0), (3, grown 39 x.1 3 x.2), (4, .int .i64 k)] [(1, .cells .new g1 0 [encSl c1 3 (encNd c2) t]), (39, grownO x.1 (encNd .new) x.2)])
    (fun k x => x.2.map Nd.v = (t.l.take k).map Nd.v) 0 (0, []) (Nat.zero_le _) (by simp)
    (Weak.st (by simp -implicitDefEqProofs only [go_sem, seval, ↓reduceIte]; simp [grown]) (by simp -implicitDefEqProofs only [go_sem, seval, ↓reduceIte]; try rfl)) ?_
  rintro k ⟨gx, l⟩ hk hR L2 hL2
  refine AW.seq_k fun K3 hK3 => ?_
  refine AW.seq_k fun K hK => AW.region (by kernel_rfl) ?_
  simp -implicitDefEqProofs only [go_sem, seval, ↓reduceIte]
  refine hK _ ?_
  clear hK K
  refine AW.condS (by simp -implicitDefEqProofs only [go_sem, seval, ↓reduceIte]; rfl) (fun h4 => ?_) (fun h4 => ?_)
  · -- true
    refine AW.skip ?_
    simp -implicitDefEqProofs only [go_sem, seval, ↓reduceIte]
    refine hK3 _ ?_
    have hk1 : k < t.l.length := by simpa using h4
    have hgi := List.getElem?_eq_getElem hk1
    refine AW.seq_k fun K5 hK5 => ?_
    refine AW.block ?_
    refine AW.seq_k fun K hK => AW.regionT ⟨fun _ => .top, fun _ => .pure⟩ (by kernel_rfl) hG (by kernel_rfl) (by kernel_rfl) ?_
    simp -implicitDefEqProofs only [go_sem, seval, ↓reduceIte, hgi]
    intro g5
    refine hK _ ?_
    clear hK K
    refine AW.seq_k fun K hK => AW.regionT ⟨fun _ => .top, fun _ => .pure⟩ (by kernel_rfl) hG (by kernel_rfl) (by kernel_rfl) ?_
    simp -implicitDefEqProofs only [go_sem, seval, ↓reduceIte, hgi]
    refine app_grown (f := V.int .i64) (l := []) (l2 := (t.l[k]).kids.l) (g := 0) (fun _ => rfl) rfl rfl rfl rfl (roomOk_of (by omega) (by have := hkk _ (List.getElem_mem hk1); simp; omega)) fun g34 => ?_
    simp -implicitDefEqProofs only [go_sem, seval, ↓reduceIte]
    refine hK _ ?_
    clear hK K
    refine AW.weak (Weak.stF (fun o => o == 34) (l := [(1, .ptr 1 g1 0), (3, grown 39 gx 3 l), (4, .int .i64 k), (5, .ptr 5 g5 0)])
      (m := [(1, .cells .new g1 0 [encSl c1 3 (encNd c2) t]), (39, grownO gx (encNd .new) l), (5, .cells .new g5 0 [.int .u8 t.l[k].op, .int .i64 t.l[k].pl, encSl .new 1 (V.int .i64) (grownS t.l[k].kids.l)])]) ?_ ?_) ?_
    · simp -implicitDefEqProofs only [go_sem, seval, ↓reduceIte]
      exact ⟨Fz.same _, Fz.same _, Fz.same _, Fz.same _⟩
    · simp only [allFzO_cons, allFzO_nil, and_true]
      exact ⟨FzO.same rfl, FzO.same rfl, FzO.of rfl rfl ⟨Fz.same _, Fz.same _, Fz.grown rfl rfl (fun _ => rfl), trivial⟩⟩
    refine AW.region (by kernel_rfl) ?_
    simp -implicitDefEqProofs only [go_sem, seval, ↓reduceIte]
    intro g38
    refine app_grown (f := encNd .new) (l := l) (l2 := [⟨t.l[k].op, t.l[k].pl, grownS t.l[k].kids.l⟩]) (g := gx) (fun _ => rfl) rfl rfl rfl rfl (roomOk_of (by omega) ?_) fun g39 => ?_
    · have := congrArg List.length hR
      simp at this ⊢
      omega
    simp -implicitDefEqProofs only [go_sem, seval, ↓reduceIte]
    refine hK5 _ ?_
    refine AW.region (by kernel_rfl) ?_
    simp -implicitDefEqProofs only [go_sem, seval, ↓reduceIte]
    refine hL2 _ ⟨hk1, (g39, l ++ [⟨t.l[k].op, t.l[k].pl, grownS t.l[k].kids.l⟩]), ?_, Weak.st (by simp -implicitDefEqProofs only [go_sem, seval, ↓reduceIte]; simp; exact w64 (by omega) (by omega)) (by simp -implicitDefEqProofs only [go_sem, seval, ↓reduceIte])⟩
    rw [List.take_succ_eq_append_getElem hk1, List.map_append, List.map_append, hR]
    simp [Nd.v, grownS_l]
  · -- false
    refine AW.exit ?_
    simp -implicitDefEqProofs only [go_sem, seval, ↓reduceIte]
    refine hK1 _ ?_
    have hk1 : k = t.l.length := by simp at h4; omega
    refine AW.seq_k fun K hK => AW.region (by kernel_rfl) ?_
    simp -implicitDefEqProofs only [go_sem, seval, ↓reduceIte]
    refine hK _ ?_
    clear hK K
    refine AW.weak (Weak.stF (fun o => o == 39) (l := [(2, encNds .new .new (grownS l))]) (m := []) ?_ trivial) ?_
    · simp -implicitDefEqProofs only [go_sem, seval, ↓reduceIte]
      exact Fz.grown rfl rfl (fun _ => rfl)
    refine AW.ret ?_
    simp -implicitDefEqProofs only [go_sem, seval, ↓reduceIte]
    refine endK_some ?_
    refine ⟨grownS l, rfl, ?_⟩
    rw [grownS_l, hR, hk1, List.take_length]
end Go.Hs
end

section
namespace Go.Hs
open Go.Proofs
set_option maxRecDepth 10000

mutual
theorem ready_len : ∀ (t : T) (b : Nat), t.full = true → (t.ready b).length ≤ t.size
  | .mk op pl k, b, h => by
    simp only [T.full, Bool.and_eq_true, bne_iff_ne] at h
    have := readys_len op k true b h.2
    rw [T.ready, T.size, if_neg h.1]
    split
    · simp
    · omega
theorem readys_len (op : Int) : ∀ (k : List T) (first : Bool) (b : Nat), T.fulls k = true → (T.readys op first k b).length ≤ T.sizes k
  | [], _, _, _ => by simp [T.readys]
  | t :: r, first, b, h => by
    simp only [T.fulls, Bool.and_eq_true] at h
    have h1 := ready_len t b h.1
    have h2 := readys_len op r false (b + t.size) h.2
    simp only [T.readys, List.length_append, T.sizes]
    split <;> simp <;> omega
end

/- hopscotch/hopscotchref22.Ready -/
theorem rReady_spec (G : Nat → V) (hG : GOk G) : ∀ (n : Nat) (c : Col) (p : Pt) (b : Nat), p.dep ≤ n → b + p.v.size < 1000000000 → (p.op = 0 ∧ p.ks.l = [] ∨ p.v.full = true) →
    Spec Try.prog G 10 [encPt c p, .int .i64 b] hNone (fun v _ => v = encSl .new 1 (V.int .i64) (grownS (p.v.ready b))) := by
  intro n
  induction n with
  | zero => intro c p b hd; obtain ⟨_, _, _, _⟩ := p; simp [Pt.dep] at hd
  | succ n ih =>
  intro c p b hd hs hf
  refine Spec.of_code' 0 46 [.tmp 4] Try.func10 rfl rfl rfl rfl fun X => ?_
  refine AW.seq_k fun K hK => AW.region (by kernel_rfl) ?_
  simp -implicitDefEqProofs only [go_sem, seval, ↓reduceIte]
  intro g2
  refine hK _ ?_
  clear hK K
  refine AW.seq_k fun K hK => AW.region (by kernel_rfl) ?_
  simp -implicitDefEqProofs only [go_sem, seval, ↓reduceIte]
  refine hK _ ?_
  clear hK K
  refine AW.seq_k fun K1 hK1 => ?_
  refine AW.seq_k fun K hK => AW.region (by kernel_rfl) ?_
  simp -implicitDefEqProofs only [go_sem, seval, ↓reduceIte]
  refine hK _ ?_
  clear hK K
  refine AW.condS (by simp -implicitDefEqProofs only [go_sem, seval, ↓reduceIte]; rfl) (fun h2 => ?_) (fun h2 => ?_)
  · -- true
    refine AW.seq_k fun K hK => AW.region (by kernel_rfl) ?_
    simp -implicitDefEqProofs only [go_sem, seval, ↓reduceIte]
    intro g12
    refine app_grown (f := V.int .i64) (l := []) (l2 := [(b : Int)]) (g := 0) (fun _ => rfl) rfl rfl rfl rfl (roomOk_of (by omega) (by simp)) fun g13 => ?_
    simp -implicitDefEqProofs only [go_sem, seval, ↓reduceIte]
    refine hK _ ?_
    clear hK K
    refine AW.weak (Weak.stF (fun o => o == 13) (l := [(4, encSl .new 1 (V.int .i64) (grownS [(b : Int)]))]) (m := []) ?_ trivial) ?_
    · simp -implicitDefEqProofs only [go_sem, seval, ↓reduceIte]
      exact Fz.grown rfl rfl (fun _ => rfl)
    refine AW.ret ?_
    simp -implicitDefEqProofs only [go_sem, seval, ↓reduceIte]
    refine endK_some ?_
    have h3 : p.v.op ≥ 3 := by rw [Pt.op_v]; simpa using h2
    rw [T.ready_K, if_pos h3]
  · -- false
    refine AW.skip ?_
    simp -implicitDefEqProofs only [go_sem, seval, ↓reduceIte]
    refine hK1 _ ?_
    have h3 : ¬ p.v.op ≥ 3 := by rw [Pt.op_v]; simpa using h2
    have hrd := T.ready_K p.v b
    rw [if_neg h3] at hrd
    have hfk : ∀ q ∈ p.ks.l, q.v.full = true := by
      intro q hq
      rcases hf with ⟨_, hf⟩ | hf
      · rw [hf] at hq; cases hq
      · exact ((T.full_K _).1 hf).2 _ (by rw [Pt.kids_v]; exact List.mem_map_of_mem hq)
    have hsz : p.ks.l = [] ∨ p.v.size = 1 + (p.ks.l.map fun q => q.v.size).sum := by
      rcases hf with hf | hf
      · exact .inl hf.2
      · exact .inr (by rw [T.size_K, if_neg ((T.full_K _).1 hf).1, Pt.kids_v, List.map_map]; rfl)
    have hkl : p.ks.l.length < 1000000000 := by
      rcases hf with hf | hf
      · rw [hf.2]; simp
      · have := T.full_kids hf
        rw [Pt.kids_v, List.length_map] at this
        omega
    refine AW.seq_k fun K3 hK3 => ?_
    refine AW.seq_k fun K hK => AW.region (by kernel_rfl) ?_
    simp -implicitDefEqProofs only [go_sem, seval, ↓reduceIte]
    refine hK _ ?_
    clear hK K
    refine AW.block ?_
    refine AW.for p.ks.l.length (fun k (x : Nat × List Int) => st [(1, .int .i64 ((b + ((p.ks.l.take k).map fun q => q.v.size).sum : Nat) : Int)), (2, .ptr 2 g2 0), (5, grown 36 x.1 1 x.2), (6, .int .i64 k)]
        [(2, .cells .new g2 0 [.int .u8 p.op, .int .i64 p.pl, encSl c 3 (encPt c) p.ks]), (36, grownO x.1 (V.int .i64) x.2)])
      (fun k x => x.2 ++ T.readys p.v.op (k == 0) ((p.ks.l.drop k).map Pt.v) (b + ((p.ks.l.take k).map fun q => q.v.size).sum) = p.v.ready b) 0 (0, []) (Nat.zero_le _) (by rw [hrd, Pt.kids_v]; simp)
      (Weak.st (by simp -implicitDefEqProofs only [go_sem, seval, ↓reduceIte]; simp [grown]) (by simp -implicitDefEqProofs only [go_sem, seval, ↓reduceIte]; try rfl)) ?_
    rintro k ⟨gx, l⟩ hk hR L4 hL4
    refine AW.seq_k fun K5 hK5 => ?_
    refine AW.seq_k fun K hK => AW.region (by kernel_rfl) ?_
    simp -implicitDefEqProofs only [go_sem, seval, ↓reduceIte]
    refine hK _ ?_
    clear hK K
    refine AW.condS (by simp -implicitDefEqProofs only [go_sem, seval, ↓reduceIte]; rfl) (fun h6 => ?_) (fun h6 => ?_)
    · -- true
      refine AW.skip ?_
      simp -implicitDefEqProofs only [go_sem, seval, ↓reduceIte]
      refine hK5 _ ?_
      have hk1 : k < p.ks.l.length := by simpa using h6
      have hgi := List.getElem?_eq_getElem hk1
      have hq := List.getElem_mem hk1
      have hszk := hsz.resolve_left (by intro e; rw [e] at hk1; simp at hk1)
      have htk := sum_take_le (p.ks.l.map fun q => q.v.size) (k + 1)
      rw [← List.map_take, List.take_succ_eq_append_getElem hk1, List.map_append, List.sum_append] at htk
      simp at htk
      have hR' : l ++ ((if p.v.op = 2 ∨ (k == 0) = true then (p.ks.l[k].v).ready (b + ((p.ks.l.take k).map fun q => q.v.size).sum) else []) ++
          T.readys p.v.op false ((p.ks.l.drop (k + 1)).map Pt.v) (b + ((p.ks.l.take (k + 1)).map fun q => q.v.size).sum)) = p.v.ready b := by
        rw [← hR, List.drop_eq_getElem_cons hk1, List.map_cons, T.readys, List.take_succ_eq_append_getElem hk1, List.map_append, List.sum_append]
        simp [Nat.add_assoc]
      have hll : l.length ≤ (p.v.ready b).length := by rw [← hR]; simp
      refine AW.seq_k fun K7 hK7 => ?_
      refine AW.block ?_
      refine AW.seqJ (fun (x : Nat × List Int) => st [(1, .int .i64 ((b + ((p.ks.l.take k).map fun q => q.v.size).sum : Nat) : Int)), (2, .ptr 2 g2 0), (5, grown 36 x.1 1 x.2), (6, .int .i64 k)]
        [(2, .cells .new g2 0 [.int .u8 p.op, .int .i64 p.pl, encSl c 3 (encPt c) p.ks]), (36, grownO x.1 (V.int .i64) x.2)])
        (fun x => x.2 ++ T.readys p.v.op false ((p.ks.l.drop (k + 1)).map Pt.v) (b + ((p.ks.l.take (k + 1)).map fun q => q.v.size).sum) = p.v.ready b) (fun K8 hK8 => ?_) ?_
      · obtain ⟨d, hd7⟩ : ∃ d, ((p.op == 2) = true ∧ d = true) ∨ ((p.op == 2) = false ∧ ((k : Int) == 0) = d) := by
          cases h : (p.op == 2)
          · exact ⟨_, .inr ⟨rfl, rfl⟩⟩
          · exact ⟨true, .inl ⟨rfl, rfl⟩⟩
        have hcd : (p.v.op = 2 ∨ (k == 0) = true) ↔ d = true := by
          rw [Pt.op_v]
          rcases hd7 with ⟨h1, h2⟩ | ⟨h1, h2⟩
          · simp at h1; simp [h1, h2]
          · have h1' : ¬ p.op = 2 := by simpa using h1
            rw [← h2]
            simp [h1']
        refine AW.seq_k fun K hK => ?_
        suffices hgo : ∀ τ' : Nat → V, τ' 27 = .bool d → τ' 1 = V.int .i64 ((b + ((p.ks.l.take k).map fun q => q.v.size).sum : Nat) : Int) → τ' 2 = .ptr 2 g2 0 → τ' 5 = grown 36 gx 1 l → τ' 6 = .int .i64 k →
            K ⟨τ', sets hNone [(2, .cells .new g2 0 [.int .u8 p.op, .int .i64 p.pl, encSl c 3 (encPt c) p.ks]), (36, grownO gx (V.int .i64) l)]⟩ by
          rcases hd7 with ⟨h1, h2⟩ | ⟨h1, h2⟩
          · refine AW.region (by kernel_rfl) ?_
            simp -implicitDefEqProofs only [go_sem, seval, ↓reduceIte, h1]
            subst h2
            refine hgo _ ?_ ?_ ?_ ?_ ?_ <;> simp -implicitDefEqProofs only [go_sem, seval, ↓reduceIte]
          · refine AW.region (by kernel_rfl) ?_
            simp -implicitDefEqProofs only [go_sem, seval, ↓reduceIte, h1, h2]
            refine hgo _ ?_ ?_ ?_ ?_ ?_ <;> simp -implicitDefEqProofs only [go_sem, seval, ↓reduceIte]
        intro τ' h27 h1 h2' h5 h6'
        refine hK _ ?_
        clear hK K
        refine AW.condS (by simp -implicitDefEqProofs only [go_sem, seval, ↓reduceIte, h27]; rfl) (fun h9 => ?_) (fun h9 => ?_)
        · subst h9
          rw [if_pos (hcd.2 rfl)] at hR'
          refine AW.region (by kernel_rfl) ?_
          simp -implicitDefEqProofs only [go_sem, seval, ↓reduceIte, hgi, h1, h2', h5, h6']
          refine CallA.pure hG (by kernel_rfl) ?_
          simp -implicitDefEqProofs only [go_sem, seval, ↓reduceIte]
          have hih := ih c.ent p.ks.l[k] (b + ((p.ks.l.take k).map fun q => q.v.size).sum) (by have := Pt.dep_kid hq; omega) (by simp; omega) (.inr (hfk _ hq))
          rw [encPt_K] at hih
          refine hih.mono ?_
          rintro _ _ rfl
          obtain ⟨r, hr0, hr⟩ : ∃ r : Sl Int, r = grownS (p.ks.l[k].v.ready (b + ((p.ks.l.take k).map fun q => q.v.size).sum)) ∧ r.l = p.ks.l[k].v.ready (b + ((p.ks.l.take k).map fun q => q.v.size).sum) := ⟨_, rfl, grownS_l _⟩
          rw [← hr0]
          rw [← hr] at hR'
          have hll2 : l.length + r.l.length ≤ (p.v.ready b).length := by rw [← hR']; simp
          simp -implicitDefEqProofs only [go_sem, seval, ↓reduceIte, Col.bk]
          refine app_grown (f := V.int .i64) (l := l) (l2 := r.l) (g := gx) (fun _ => rfl) rfl rfl rfl rfl (roomOk_of (by omega) (by have := ready_len p.v b (hf.resolve_left (by rintro ⟨_, e⟩; rw [e] at hk1; simp at hk1)); omega)) fun g36 => ?_
          simp -implicitDefEqProofs only [go_sem, seval, ↓reduceIte, h1, h2', h5, h6']
          refine hK8 _ (g36, l ++ r.l) (by rw [List.append_assoc]; exact hR') (Weak.st (by simp -implicitDefEqProofs only [go_sem, seval, ↓reduceIte, h1, h2', h5, h6']) (by simp -implicitDefEqProofs only [go_sem, seval, ↓reduceIte]))
        · subst h9
          rw [if_neg (fun h => by have := hcd.1 h; simp at this)] at hR'
          refine AW.skip ?_
          simp -implicitDefEqProofs only [go_sem, seval, ↓reduceIte]
          refine hK8 _ (gx, l) (by simpa using hR') (Weak.st (by simp -implicitDefEqProofs only [go_sem, seval, ↓reduceIte, h1, h2', h5, h6']) (by simp -implicitDefEqProofs only [go_sem, seval, ↓reduceIte]))
      · rintro ⟨gy, m⟩ hRm
        refine AW.region (by kernel_rfl) ?_
        simp -implicitDefEqProofs only [go_sem, seval, ↓reduceIte, hgi]
        refine CallA.pure hG (by kernel_rfl) ?_
        simp -implicitDefEqProofs only [go_sem, seval, ↓reduceIte]
        have hih := size_spec G hG (p.dep + 1) c.ent p.ks.l[k] (by have := Pt.dep_kid hq; omega) (by omega) (.inr (hfk _ hq))
        rw [encPt_K] at hih
        refine hih.mono ?_
        rintro _ _ rfl
        simp -implicitDefEqProofs only [go_sem, seval, ↓reduceIte]
        refine hK7 _ ?_
        refine AW.region (by kernel_rfl) ?_
        simp -implicitDefEqProofs only [go_sem, seval, ↓reduceIte]
        refine hL4 _ ⟨hk1, (gy, m), hRm, Weak.st (by simp -implicitDefEqProofs only [go_sem, seval, ↓reduceIte]; refine ⟨congrArg _ ?_, congrArg _ (w64 (by omega) (by omega))⟩; rw [List.take_succ_eq_append_getElem hk1, List.map_append, List.sum_append]; simp; rw [w64 (by omega) (by omega)]; omega) (by simp -implicitDefEqProofs only [go_sem, seval, ↓reduceIte])⟩
    · -- false
      refine AW.exit ?_
      simp -implicitDefEqProofs only [go_sem, seval, ↓reduceIte]
      refine hK3 _ ?_
      have hk1 : k = p.ks.l.length := by simp at h6; omega
      refine AW.seq_k fun K hK => AW.region (by kernel_rfl) ?_
      simp -implicitDefEqProofs only [go_sem, seval, ↓reduceIte]
      refine hK _ ?_
      clear hK K
      refine AW.weak (Weak.stF (fun o => o == 36) (l := [(4, encSl .new 1 (V.int .i64) (grownS l))]) (m := []) ?_ trivial) ?_
      · simp -implicitDefEqProofs only [go_sem, seval, ↓reduceIte]
        exact Fz.grown rfl rfl (fun _ => rfl)
      refine AW.ret ?_
      simp -implicitDefEqProofs only [go_sem, seval, ↓reduceIte]
      refine endK_some ?_
      rw [← hR, hk1]
      simp [T.readys]
end Go.Hs
end

section
namespace Go.Hs
open Go.Proofs
set_option maxRecDepth 10000

/- hopscotch/hopscotchref22.Row -/
theorem rRow_spec (G : Nat → V) (hG : GOk G) : ∀ (n : Nat) (p : Pt), p.dep ≤ n → (p.op = 0 ∨ p.v.full = true) → p.v.size < 1000000000 →
    Spec Try.prog G 11 [encPt .any p] hNone (fun v _ => v = encNds .new .new (grownS p.v.row)) := by
  intro n
  induction n with
  | zero => intro p hd; obtain ⟨_, _, _, _⟩ := p; simp [Pt.dep] at hd
  | succ n ih =>
  intro p hd hf hs
  refine Spec.of_code' 0 91 [.tmp 2] Try.func11 rfl rfl rfl rfl fun X => ?_
  refine AW.seq_k fun K hK => AW.region (by kernel_rfl) ?_
  simp -implicitDefEqProofs only [go_sem, seval, ↓reduceIte]
  intro g1
  refine hK _ ?_
  clear hK K
  refine AW.seq_k fun K hK => AW.region (by kernel_rfl) ?_
  simp -implicitDefEqProofs only [go_sem, seval, ↓reduceIte]
  refine hK _ ?_
  clear hK K
  refine AW.seq_k fun K1 hK1 => ?_
  refine AW.seq_k fun K hK => AW.region (by kernel_rfl) ?_
  simp -implicitDefEqProofs only [go_sem, seval, ↓reduceIte]
  refine hK _ ?_
  clear hK K
  refine AW.condS (by simp -implicitDefEqProofs only [go_sem, seval, ↓reduceIte]; rfl) (fun h2 => ?_) (fun h2 => ?_)
  · -- true
    refine AW.seq_k fun K hK => AW.region (by kernel_rfl) ?_
    simp -implicitDefEqProofs only [go_sem, seval, ↓reduceIte]
    refine hK _ ?_
    clear hK K
    refine AW.ret ?_
    simp -implicitDefEqProofs only [go_sem, seval, ↓reduceIte]
    refine endK_some ?_
    have h0 : p.v.op = 0 := by rw [Pt.op_v]; simpa using h2
    rw [T.row_K, if_pos h0]
    rfl
  · -- false
    refine AW.skip ?_
    simp -implicitDefEqProofs only [go_sem, seval, ↓reduceIte]
    refine hK1 _ ?_
    have h0 : p.op ≠ 0 := by simpa using h2
    have hf : p.v.full = true := hf.resolve_left h0
    have hrow : p.v.row = T.rows (p.ks.l.map Pt.v) 0 ++ [⟨p.op, p.pl, grownS (T.rowKids (p.ks.l.map Pt.v) 0)⟩] := by
      rw [T.row_K, if_neg (by rw [Pt.op_v]; exact h0), Pt.kids_v, Pt.op_v, Pt.pl_v]
    have hkl := T.full_kids hf
    rw [Pt.kids_v, List.length_map] at hkl
    have hfk : ∀ q ∈ p.ks.l, q.v.full = true := fun q hq => ((T.full_K _).1 hf).2 _ (by rw [Pt.kids_v]; exact List.mem_map_of_mem hq)
    have hsz : p.v.size = 1 + (p.ks.l.map fun q => q.v.size).sum := by
      rw [T.size_K, if_neg ((T.full_K _).1 hf).1, Pt.kids_v, List.map_map]; rfl
    have hrl := T.row_len _ hf
    refine AW.seq_k fun K hK => AW.region (by kernel_rfl) ?_
    simp -implicitDefEqProofs only [go_sem, seval, ↓reduceIte]
    refine hK _ ?_
    clear hK K
    refine AW.seq_k fun K3 hK3 => ?_
    refine AW.seq_k fun K hK => AW.region (by kernel_rfl) ?_
    simp -implicitDefEqProofs only [go_sem, seval, ↓reduceIte]
    refine hK _ ?_
    clear hK K
    refine AW.block ?_
    refine AW.for p.ks.l.length (fun k (x : (Nat × List Nd) × (Nat × List Int)) => st [(1, .ptr 1 g1 0), (3, grown 75 x.1.1 3 x.1.2), (4, grown 81 x.2.1 1 x.2.2), (5, .int .i64 k)]
        [(1, .cells .new g1 0 [.int .u8 p.op, .int .i64 p.pl, encSl .any 3 (encPt .any) p.ks]), (75, grownO x.1.1 (encNd .new) x.1.2), (81, grownO x.2.1 (V.int .i64) x.2.2)])
      (fun k x => x.1.2 ++ T.rows ((p.ks.l.drop k).map Pt.v) x.1.2.length = T.rows (p.ks.l.map Pt.v) 0 ∧ x.2.2 ++ T.rowKids ((p.ks.l.drop k).map Pt.v) x.1.2.length = T.rowKids (p.ks.l.map Pt.v) 0) 0 ((0, []), (0, [])) (Nat.zero_le _) (by simp)
      (Weak.st (by simp -implicitDefEqProofs only [go_sem, seval, ↓reduceIte] <;> simp [grown]) (by simp -implicitDefEqProofs only [go_sem, seval, ↓reduceIte] <;> exact ⟨rfl, rfl⟩)) ?_
    rintro k ⟨⟨ga, out⟩, ⟨gb, kids⟩⟩ hk ⟨hR1, hR2⟩ L4 hL4
    refine AW.seq_k fun K5 hK5 => ?_
    refine AW.seq_k fun K hK => AW.region (by kernel_rfl) ?_
    simp -implicitDefEqProofs only [go_sem, seval, ↓reduceIte]
    refine hK _ ?_
    clear hK K
    refine AW.condS (by simp -implicitDefEqProofs only [go_sem, seval, ↓reduceIte]; rfl) (fun h6 => ?_) (fun h6 => ?_)
    · -- true
      refine AW.skip ?_
      simp -implicitDefEqProofs only [go_sem, seval, ↓reduceIte]
      refine hK5 _ ?_
      have hk1 : k < p.ks.l.length := by simpa using h6
      have hgi := List.getElem?_eq_getElem hk1
      have hq := List.getElem_mem hk1
      generalize hqd : p.ks.l[k] = q at hq hgi
      rw [List.drop_eq_getElem_cons hk1, List.map_cons, hqd, T.rows] at hR1
      rw [List.drop_eq_getElem_cons hk1, List.map_cons, hqd, T.rowKids] at hR2
      have hfq := hfk q hq
      have hqs : q.v.size < p.v.size := by
        have := sum_le_of_mem (List.mem_map_of_mem (f := fun q : Pt => q.v.size) hq)
        omega
      have hql := T.row_len _ hfq
      have hol : out.length + q.v.row.length < 1000000000 := by
        have h1 := congrArg List.length hR1
        have h2 := congrArg List.length hrow
        simp at h1 h2
        omega
      have hkl2 : kids.length < 1000000000 := by
        have h1 := congrArg List.length hR2
        rw [T.kids_len] at h1
        simp at h1
        omega
      refine AW.seq_k fun K7 hK7 => ?_
      refine AW.block ?_
      refine AW.seq_k fun K hK => AW.region (by kernel_rfl) ?_
      simp -implicitDefEqProofs only [go_sem, seval, ↓reduceIte, hgi]
      refine CallA.pure hG (by kernel_rfl) ?_
      simp -implicitDefEqProofs only [go_sem, seval, ↓reduceIte]
      have hih := ih q (by have := Pt.dep_kid hq; omega) (.inr hfq) (by omega)
      rw [encPt_K] at hih
      refine hih.mono ?_
      rintro _ _ rfl
      simp -implicitDefEqProofs only [go_sem, seval, ↓reduceIte]
      refine hK _ ?_
      clear hK K
      refine AW.seq_k fun K hK => AW.region (by kernel_rfl) ?_
      simp -implicitDefEqProofs only [go_sem, seval, ↓reduceIte]
      refine hK _ ?_
      clear hK K
      refine AW.seq_k fun K8 hK8 => ?_
      refine AW.seq_k fun K hK => AW.region (by kernel_rfl) ?_
      simp -implicitDefEqProofs only [go_sem, seval, ↓reduceIte]
      refine hK _ ?_
      clear hK K
      refine AW.block ?_
      refine AW.for q.v.row.length (fun j (x : Nat × List Nd) => st [(1, .ptr 1 g1 0), (3, grown 75 x.1 3 x.2), (4, grown 81 gb 1 kids), (5, .int .i64 k), (6, encSl .new 3 (encNd .new) (grownS q.v.row)), (7, .int .i64 out.length), (8, .int .i64 j)]
          [(1, .cells .new g1 0 [.int .u8 p.op, .int .i64 p.pl, encSl .any 3 (encPt .any) p.ks]), (75, grownO x.1 (encNd .new) x.2), (81, grownO gb (V.int .i64) kids)])
        (fun j x => x.2 = out ++ (q.v.row.take j).map (Nd.shift out.length)) 0 (ga, out) (Nat.zero_le _) (by simp)
        (Weak.st (by simp -implicitDefEqProofs only [go_sem, seval, ↓reduceIte] <;> simp) (by simp -implicitDefEqProofs only [go_sem, seval, ↓reduceIte])) ?_
      rintro j ⟨gc, out2⟩ hj hRj L9 hL9
      refine AW.seq_k fun K10 hK10 => ?_
      refine AW.seq_k fun K hK => AW.region (by kernel_rfl) ?_
      simp -implicitDefEqProofs only [go_sem, seval, ↓reduceIte, grownS_l]
      refine hK _ ?_
      clear hK K
      refine AW.condS (by simp -implicitDefEqProofs only [go_sem, seval, ↓reduceIte]; rfl) (fun h11 => ?_) (fun h11 => ?_)
      · -- true
        refine AW.skip ?_
        simp -implicitDefEqProofs only [go_sem, seval, ↓reduceIte]
        refine hK10 _ ?_
        have hj1 : j < q.v.row.length := by simpa using h11
        have hgj : q.v.row[j]? = some q.v.row[j] := List.getElem?_eq_getElem hj1
        have hnm := List.getElem_mem hj1
        generalize hnd : q.v.row[j] = nd at hnm hgj
        refine AW.seq_k fun K12 hK12 => ?_
        refine AW.block ?_
        refine AW.seq_k fun K hK => AW.regionT ⟨fun _ => .top, fun _ => .pure⟩ (by kernel_rfl) hG (by kernel_rfl) (by kernel_rfl) ?_
        simp -implicitDefEqProofs only [go_sem, seval, ↓reduceIte, hgj]
        intro g9
        refine hK _ ?_
        clear hK K
        refine AW.seq_k fun K13 hK13 => ?_
        refine AW.seq_k fun K hK => AW.region (by kernel_rfl) ?_
        simp -implicitDefEqProofs only [go_sem, seval, ↓reduceIte]
        refine hK _ ?_
        clear hK K
        refine AW.block ?_
        refine AW.for nd.kids.l.length (fun i (x : Nat × List Int) => st [(1, .ptr 1 g1 0), (3, grown 75 gc 3 out2), (4, grown 81 gb 1 kids), (5, .int .i64 k), (6, encSl .new 3 (encNd .new) (grownS q.v.row)), (7, .int .i64 out.length), (8, .int .i64 j), (9, .ptr 9 g9 0), (10, .int .i64 i)]
            [(1, .cells .new g1 0 [.int .u8 p.op, .int .i64 p.pl, encSl .any 3 (encPt .any) p.ks]), (75, grownO gc (encNd .new) out2), (81, grownO gb (V.int .i64) kids), (9, .cells .new g9 0 [.int .u8 nd.op, .int .i64 nd.pl, grown 70 x.1 1 x.2]), (70, grownO x.1 (V.int .i64) x.2)])
          (fun i x => x.2 = (nd.kids.l.take i).map fun y => y + (out.length : Int)) 0 (0, []) (Nat.zero_le _) (by simp)
          (Weak.st (by simp -implicitDefEqProofs only [go_sem, seval, ↓reduceIte] <;> simp) (by simp -implicitDefEqProofs only [go_sem, seval, ↓reduceIte] <;> exact ⟨rfl, rfl⟩)) ?_
        rintro i ⟨gd, ks⟩ hi hRi L14 hL14
        have hRi : ks = (nd.kids.l.take i).map fun y => y + (out.length : Int) := hRi
        have hnl := T.row_klen _ hfq nd hnm
        refine AW.seq_k fun K15 hK15 => ?_
        refine AW.seq_k fun K hK => AW.region (by kernel_rfl) ?_
        simp -implicitDefEqProofs only [go_sem, seval, ↓reduceIte, hgj]
        refine hK _ ?_
        clear hK K
        refine AW.condS (by simp -implicitDefEqProofs only [go_sem, seval, ↓reduceIte]; rfl) (fun h16 => ?_) (fun h16 => ?_)
        · -- true
          refine AW.skip ?_
          simp -implicitDefEqProofs only [go_sem, seval, ↓reduceIte]
          refine hK15 _ ?_
          have hi1 : i < nd.kids.l.length := by simpa using h16
          have hgk : nd.kids.l[i]? = some nd.kids.l[i] := List.getElem?_eq_getElem hi1
          have hv := T.row_kids _ hfq nd hnm _ (List.getElem_mem hi1)
          refine AW.seq_k fun K17 hK17 => ?_
          refine AW.block ?_
          refine AW.regionT ⟨fun _ => .top, fun _ => .pure⟩ (by kernel_rfl) hG (by kernel_rfl) (by kernel_rfl) ?_
          simp -implicitDefEqProofs only [go_sem, seval, ↓reduceIte, hgj, hgk]
          intro g69
          refine app_grown (f := V.int .i64) (l := ks) (l2 := [nd.kids.l[i] + (out.length : Int)]) (g := gd) (fun _ => rfl) rfl (by rw [w64 (by omega) (by omega)]; rfl) rfl rfl (roomOk_of (by omega) (by rw [hRi]; simp; omega)) fun g70 => ?_
          simp -implicitDefEqProofs only [go_sem, seval, ↓reduceIte]
          refine hK17 _ ?_
          refine AW.region (by kernel_rfl) ?_
          simp -implicitDefEqProofs only [go_sem, seval, ↓reduceIte]
          refine hL14 _ ⟨hi1, (g70, ks ++ [nd.kids.l[i] + (out.length : Int)]), ?_, Weak.st (by simp -implicitDefEqProofs only [go_sem, seval, ↓reduceIte]; exact congrArg _ (w64 (by omega) (by omega))) (by simp -implicitDefEqProofs only [go_sem, seval, ↓reduceIte])⟩
          rw [List.take_succ_eq_append_getElem hi1, List.map_append, ← hRi]
          rfl
        · -- false
          refine AW.exit ?_
          simp -implicitDefEqProofs only [go_sem, seval, ↓reduceIte]
          refine hK13 _ ?_
          have hi1 : i = nd.kids.l.length := by simp at h16; omega
          have hks : ks = nd.kids.l.map fun y => y + (out.length : Int) := by rw [hRi, hi1, List.take_length]
          refine AW.weak (Weak.stF (fun o => o == 70) (l := [(1, .ptr 1 g1 0), (3, grown 75 gc 3 out2), (4, grown 81 gb 1 kids), (5, .int .i64 k), (6, encSl .new 3 (encNd .new) (grownS q.v.row)), (7, .int .i64 out.length), (8, .int .i64 j), (9, .ptr 9 g9 0)])
            (m := [(1, .cells .new g1 0 [.int .u8 p.op, .int .i64 p.pl, encSl .any 3 (encPt .any) p.ks]), (75, grownO gc (encNd .new) out2), (81, grownO gb (V.int .i64) kids), (9, .cells .new g9 0 [.int .u8 nd.op, .int .i64 nd.pl, encSl .new 1 (V.int .i64) (grownS ks)])]) ?_ ?_) ?_
          · simp -implicitDefEqProofs only [go_sem, seval, ↓reduceIte]
            exact ⟨Fz.same _, Fz.same _, Fz.same _, Fz.same _, Fz.same _, Fz.same _, Fz.same _, Fz.same _⟩
          · simp only [allFzO_cons, allFzO_nil, and_true]
            exact ⟨FzO.same rfl, FzO.same rfl, FzO.same rfl, FzO.of rfl rfl ⟨Fz.same _, Fz.same _, Fz.grown rfl rfl (fun _ => rfl), trivial⟩⟩
          refine AW.region (by kernel_rfl) ?_
          simp -implicitDefEqProofs only [go_sem, seval, ↓reduceIte]
          intro g74
          refine app_grown (f := encNd .new) (l := out2) (l2 := [⟨nd.op, nd.pl, grownS ks⟩]) (g := gc) (fun _ => rfl) rfl rfl rfl rfl (roomOk_of (by omega) ?_) fun g75 => ?_
          · have := congrArg List.length hRj
            simp at this ⊢
            omega
          simp -implicitDefEqProofs only [go_sem, seval, ↓reduceIte]
          refine hK12 _ ?_
          refine AW.region (by kernel_rfl) ?_
          simp -implicitDefEqProofs only [go_sem, seval, ↓reduceIte]
          refine hL9 _ ⟨hj1, (g75, out2 ++ [⟨nd.op, nd.pl, grownS ks⟩]), ?_, Weak.st (by simp -implicitDefEqProofs only [go_sem, seval, ↓reduceIte]; exact congrArg _ (w64 (by omega) (by omega))) (by simp -implicitDefEqProofs only [go_sem, seval, ↓reduceIte])⟩
          have hRj : out2 = out ++ (q.v.row.take j).map (Nd.shift out.length) := hRj
          rw [List.take_succ_eq_append_getElem hj1, List.map_append, ← List.append_assoc, ← hRj, hnd, hks]
          rfl
      · -- false
        refine AW.exit ?_
        simp -implicitDefEqProofs only [go_sem, seval, ↓reduceIte]
        refine hK8 _ ?_
        have hj1 : j = q.v.row.length := by simp at h11; omega
        have hout : out2 = out ++ q.v.row.map (Nd.shift out.length) := by
          have : out2 = out ++ (q.v.row.take j).map (Nd.shift out.length) := hRj
          rw [this, hj1, List.take_length]
        have hol2 : out2.length = out.length + q.v.row.length := by rw [hout]; simp
        refine AW.region (by kernel_rfl) ?_
        simp -implicitDefEqProofs only [go_sem, seval, ↓reduceIte]
        intro g80
        refine app_grown (f := V.int .i64) (l := kids) (l2 := [((out.length + q.v.row.length : Nat) : Int) - 1]) (g := gb) (fun _ => rfl) rfl (by rw [w64 (by omega) (by omega), hol2]; rfl) rfl rfl (roomOk_of (by omega) (by simp; omega)) fun g81 => ?_
        simp -implicitDefEqProofs only [go_sem, seval, ↓reduceIte]
        refine hK7 _ ?_
        refine AW.region (by kernel_rfl) ?_
        simp -implicitDefEqProofs only [go_sem, seval, ↓reduceIte]
        refine hL4 _ ⟨hk1, ((gc, out2), (g81, kids ++ [((out.length + q.v.row.length : Nat) : Int) - 1])), ⟨?_, ?_⟩, Weak.st (by simp -implicitDefEqProofs only [go_sem, seval, ↓reduceIte]; exact congrArg _ (w64 (by omega) (by omega))) (by simp -implicitDefEqProofs only [go_sem, seval, ↓reduceIte])⟩
        · rw [← hR1, hol2, hout, List.append_assoc]
        · rw [← hR2, hol2, List.append_assoc]
          rfl
    · -- false
      refine AW.exit ?_
      simp -implicitDefEqProofs only [go_sem, seval, ↓reduceIte]
      refine hK3 _ ?_
      have hk1 : k = p.ks.l.length := by simp at h6; omega
      have hout : out = T.rows (p.ks.l.map Pt.v) 0 := by rw [← hR1, hk1]; simp [T.rows]
      have hkids : kids = T.rowKids (p.ks.l.map Pt.v) 0 := by rw [← hR2, hk1]; simp [T.rowKids]
      refine AW.weak (Weak.stF (fun o => o == 81) (l := [(1, .ptr 1 g1 0), (3, grown 75 ga 3 out), (4, encSl .new 1 (V.int .i64) (grownS kids))])
        (m := [(1, .cells .new g1 0 [.int .u8 p.op, .int .i64 p.pl, encSl .any 3 (encPt .any) p.ks]), (75, grownO ga (encNd .new) out)]) ?_ ?_) ?_
      · simp -implicitDefEqProofs only [go_sem, seval, ↓reduceIte]
        exact ⟨Fz.same _, Fz.same _, Fz.grown rfl rfl (fun _ => rfl)⟩
      · simp only [allFzO_cons, allFzO_nil, and_true]
        exact ⟨FzO.same rfl, FzO.same rfl⟩
      refine AW.seq_k fun K hK => AW.region (by kernel_rfl) ?_
      simp -implicitDefEqProofs only [go_sem, seval, ↓reduceIte]
      intro g89
      refine app_grown2 (f := encNd .new) (l := out) (l2 := [⟨p.op, p.pl, grownS kids⟩]) (o := 75) (g := ga) (fun _ => rfl) rfl rfl rfl rfl (roomOk_of (by omega) ?_) fun o2 g2 ho2 => ?_
      · have h1 := congrArg List.length hrow
        rw [List.length_append, ← hout] at h1
        simp at h1 ⊢
        omega
      simp -implicitDefEqProofs only [go_sem, seval, ↓reduceIte]
      refine hK _ ?_
      clear hK K
      refine AW.weak (Weak.stF (fun o => o == o2) (l := [(2, encSl .new 3 (encNd .new) (grownS (out ++ [⟨p.op, p.pl, grownS kids⟩])))]) (m := []) ?_ trivial) ?_
      · simp -implicitDefEqProofs only [go_sem, seval, ↓reduceIte]
        exact Fz.grown (by simp) (by simp -implicitDefEqProofs only [go_sem, seval, ↓reduceIte]) (fun _ => rfl)
      refine AW.ret ?_
      simp -implicitDefEqProofs only [go_sem, seval, ↓reduceIte]
      refine endK_some ?_
      rw [hrow, ← hout, ← hkids]
end Go.Hs
end

section
namespace Go.Hs
open Go.Proofs
set_option maxRecDepth 10000
theorem few_lens {l : List Nd} (h : fewP l = true) : l.length ≤ 60 ∧ ∀ n ∈ l, n.kids.l.length ≤ 20 := by
  simp [fewP] at h
  exact h
theorem ready_eq {l : List Nd} {t : T} (h : RowIs l t) : t.ready 0 = readyP l := by
  rw [h.ready]
  split
  · rcases h with ⟨rfl, _⟩ | ⟨hg, _⟩
    · rfl
    · exact absurd ‹t.op = 0› (T.good_op hg)
  · rfl
theorem rightP_v {l m : List Nd} (h : m.map Nd.v = l.map Nd.v) : rightP m = rightP l := by
  rw [Bool.eq_iff_iff, rightP_iff, rightP_iff, h]
  have : m = [] ↔ l = [] := by
    have := congrArg List.length h
    simp only [List.length_map] at this
    rw [← List.length_eq_zero_iff, ← List.length_eq_zero_iff, this]
  rw [this]
theorem sz_le {l : List Nd} {t : T} (h : RowIs l t) : t.sz ≤ l.length + 1 := by
  rcases h with ⟨rfl, _⟩ | ⟨hg, hv⟩
  · show T.zero.sz ≤ _
    have : T.zero.sz = 1 := rfl
    omega
  · have := (RowIs.len (.inr ⟨hg, hv⟩)).2 hg
    omega
theorem ready_right {l : List Nd} {x : Int} (h : (readyP l).contains x = true) : rightP l = true := by
  unfold readyP at h
  split at h
  · simp at h
  · rename_i h'
    simpa using fun e => h' (.inr e)
/-- Take's row, and its bounds. -/
theorem takeP_row {t b : List Nd} {leaf : Int} {T0 B0 : T} (hT : RowIs t T0) (hB : RowIs b B0) (h1 : t.length ≤ 60) (h2 : b.length ≤ 60) (hc : (readyP t).contains leaf = true) :
    RowIs (takeP t leaf b) (T0.tk leaf B0) ∧ TakeOk t leaf b t.length (t.length - 1) ∧ T0.good ∧ 0 ≤ leaf ∧ leaf < 1000 ∧ (T0.tk leaf B0).sz ≤ 122 := by
  have s1 := sz_le hT
  have s2 := sz_le hB
  have hm : leaf ∈ readyP t := by simpa using hc
  have hg : T0.good := by
    rcases hT with ⟨_, rfl⟩ | ⟨hg, _⟩
    · rw [show readyP [] = [] from rfl] at hm; cases hm
    · exact hg
  obtain ⟨h3, h4⟩ := take_law hT hB hm (by omega)
  have h5 := tk_sz T0 leaf B0 hg
  have hv : t.map Nd.v = T0.vrow 0 := by
    rcases hT with ⟨rfl, h⟩ | ⟨_, h⟩
    · exact absurd rfl (T.good_op hg)
    · exact h
  have hseg : Seg t 0 (T0.vrow 0) := by intro j x hj; rw [hv, Nat.zero_add, hj]
  rw [← ready_eq hT] at hm
  obtain ⟨q1, q2, _⟩ := ready_leaf T0 0 hg hseg leaf hm
  exact ⟨h3, h4, hg, by omega, by omega, by omega⟩
theorem RowIs.lens {l : List Nd} {t : T} (h : RowIs l t) (hs : t.sz ≤ 122) : l.length < 1000 ∧ ∀ n ∈ l, n.kids.l.length < 1000 :=
  ⟨by have := h.len.1; omega, fun n hn => by have := (h.kids n hn).1; omega⟩
theorem takeP_lens {t b : List Nd} {leaf : Int} (hf1 : fewP t = true) (hf2 : fewP b = true) : (takeP t leaf b).length < 1000 ∧ ∀ n ∈ takeP t leaf b, n.kids.l.length < 1000 := by
  obtain ⟨h1, h1k⟩ := few_lens hf1
  obtain ⟨h2, _⟩ := few_lens hf2
  by_cases hc : rightP b = true ∧ (readyP t).contains leaf = true
  · obtain ⟨T0, hT⟩ := RowIs.of_right (ready_right hc.2)
    obtain ⟨B0, hB⟩ := RowIs.of_right hc.1
    obtain ⟨q1, _, _, _, _, q2⟩ := takeP_row hT hB h1 h2 hc.2
    exact q1.lens q2
  · rw [takeP, if_neg hc]
    refine ⟨by rw [List.length_map]; omega, fun n hn => ?_⟩
    obtain ⟨m, hm, rfl⟩ := List.mem_map.1 hn
    have e : (Nd.copy m).kids.l = m.kids.l := congrArg (·.2.2) (Nd.copy_v m)
    rw [e]
    have := h1k m hm
    omega
theorem takeP_no {t b : List Nd} {leaf : Int} (h : ¬ (rightP b = true ∧ (readyP t).contains leaf = true)) : (takeP t leaf b).map Nd.v = t.map Nd.v := by
  rw [takeP, if_neg h, copy_v]
theorem old_nds (t : Sl Nd) : (encSl .old 3 (encNd .old) t).Old := Old.enc (fun n y hy => by
  simp only [encNd, V.cells, List.mem_cons, List.not_mem_nil, or_false] at hy
  rcases hy with rfl | rfl | rfl
  · exact .int _ _
  · exact .int _ _
  · exact Old.enc (fun x y hy => by simp only [V.cells, List.mem_singleton] at hy; subst hy; exact .int _ _) _) t
/- hopscotchlaw22.StepsTake -/
theorem stepsTake_spec (G : Nat → V) (hG : GOk G) (hGo : ∀ g, (G g).Old) (t b : Sl Nd) (leaf : Int) :
    Spec Try.prog G 3 [encTree .old .old t, .int .i64 leaf, encTree .old .old b] hNone (fun v _ => v = .bool true) := by
  refine Spec.of_code' 0 83 [.tmp 6] Try.func3 rfl rfl rfl rfl fun X => ?_
  refine AW.seq_k fun K hK => AW.region (by kernel_rfl) ?_
  simp -implicitDefEqProofs only [go_sem, seval, ↓reduceIte]
  intro g3 g5
  refine hK _ ?_
  clear hK K
  refine AW.seqJ (fun (_ : Unit) => st [(1, .int .i64 leaf), (3, .ptr 3 g3 0), (5, .ptr 5 g5 0)] [(3, .cells .new g3 0 [encSl .old 3 (encNd .old) t]), (5, .cells .new g5 0 [encSl .old 3 (encNd .old) b])]) (fun _ => fewP t.l = true ∧ fewP b.l = true) (fun K1 hK1 => ?_) ?_
  · cases hf : fewP t.l with
    | false =>
      refine AW.seq_k fun K hK => AW.region (by kernel_rfl) ?_
      simp -implicitDefEqProofs only [go_sem, seval, ↓reduceIte]
      refine CallA.pure hG (by kernel_rfl) ?_
      simp -implicitDefEqProofs only [go_sem, seval, ↓reduceIte]
      refine (few_spec G hG _ _ t).mono ?_
      rintro _ _ rfl
      simp -implicitDefEqProofs only [go_sem, seval, ↓reduceIte, hf]
      refine hK _ ?_
      clear hK K
      refine AW.condS (by simp -implicitDefEqProofs only [go_sem, seval, ↓reduceIte]; rfl) (fun h2 => ?_) (fun h2 => ?_)
      · refine AW.seq_k fun K hK => AW.region (by kernel_rfl) ?_
        simp -implicitDefEqProofs only [go_sem, seval, ↓reduceIte]
        refine CallA.pure hG (by kernel_rfl) ?_
        simp -implicitDefEqProofs only [go_sem, seval, ↓reduceIte, List.map_nil]
        refine (works_spec G hG).mono ?_
        rintro _ _ rfl
        simp -implicitDefEqProofs only [go_sem, seval, ↓reduceIte]
        refine hK _ ?_
        clear hK K
        refine AW.ret ?_
        simp -implicitDefEqProofs only [go_sem, seval, ↓reduceIte]
        refine endK_some ?_
        rfl
      · simp at h2
    | true =>
      refine AW.seq_k fun K hK => AW.region (by kernel_rfl) ?_
      simp -implicitDefEqProofs only [go_sem, seval, ↓reduceIte]
      refine CallA.pure hG (by kernel_rfl) ?_
      simp -implicitDefEqProofs only [go_sem, seval, ↓reduceIte]
      refine (few_spec G hG _ _ t).mono ?_
      rintro _ _ rfl
      simp -implicitDefEqProofs only [go_sem, seval, ↓reduceIte, hf]
      refine CallA.pure hG (by kernel_rfl) ?_
      simp -implicitDefEqProofs only [go_sem, seval, ↓reduceIte]
      refine (few_spec G hG _ _ b).mono ?_
      rintro _ _ rfl
      simp -implicitDefEqProofs only [go_sem, seval, ↓reduceIte]
      refine hK _ ?_
      clear hK K
      refine AW.condS (by simp -implicitDefEqProofs only [go_sem, seval, ↓reduceIte]; rfl) (fun h2 => ?_) (fun h2 => ?_)
      · refine AW.seq_k fun K hK => AW.region (by kernel_rfl) ?_
        simp -implicitDefEqProofs only [go_sem, seval, ↓reduceIte]
        refine CallA.pure hG (by kernel_rfl) ?_
        simp -implicitDefEqProofs only [go_sem, seval, ↓reduceIte, List.map_nil]
        refine (works_spec G hG).mono ?_
        rintro _ _ rfl
        simp -implicitDefEqProofs only [go_sem, seval, ↓reduceIte]
        refine hK _ ?_
        clear hK K
        refine AW.ret ?_
        simp -implicitDefEqProofs only [go_sem, seval, ↓reduceIte]
        refine endK_some ?_
        rfl
      · refine AW.skip ?_
        simp -implicitDefEqProofs only [go_sem, seval, ↓reduceIte]
        exact hK1 _ () ⟨hf, by simpa using h2⟩ (Weak.st (by simp -implicitDefEqProofs only [go_sem, seval, ↓reduceIte]) (by simp -implicitDefEqProofs only [go_sem, seval, ↓reduceIte]))
  · rintro _ ⟨hf1, hf2⟩
    obtain ⟨htl, htk⟩ := few_lens hf1
    obtain ⟨hbl, hbk⟩ := few_lens hf2
    refine AW.seq_k fun K hK => AW.region (by kernel_rfl) ?_
    simp -implicitDefEqProofs only [go_sem, seval, ↓reduceIte]
    refine CallA.pure hG (by kernel_rfl) ?_
    simp -implicitDefEqProofs only [go_sem, seval, ↓reduceIte]
    refine (row_spec G hG _ _ t (by omega) (fun n hn => by have := htk n hn; omega)).mono ?_
    rintro _ _ ⟨r, rfl, hr⟩
    simp -implicitDefEqProofs only [go_sem, seval, ↓reduceIte]
    refine hK _ ?_
    clear hK K
    have hrl : r.l.length = t.l.length := by have := congrArg List.length hr; simpa using this
    have hrk : ∀ n ∈ r.l, n.kids.l.length ≤ 20 := by
      intro n hn
      have : n.v ∈ t.l.map Nd.v := hr ▸ List.mem_map_of_mem hn
      obtain ⟨m, hm, he⟩ := List.mem_map.1 this
      have := htk m hm
      have e : m.kids.l = n.kids.l := congrArg (·.2.2) he
      rw [← e]; exact this
    refine AW.seq_k fun K hK => AW.region (by kernel_rfl) ?_
    simp -implicitDefEqProofs only [go_sem, seval, ↓reduceIte]
    refine CallA.pure hG (by kernel_rfl) ?_
    simp -implicitDefEqProofs only [go_sem, seval, ↓reduceIte]
    refine (rOf_spec G hG _ _ r (by omega) (fun n hn => by have := hrk n hn; omega)).mono ?_
    rintro _ _ rfl
    simp -implicitDefEqProofs only [go_sem, seval, ↓reduceIte]
    intro g8
    refine hK _ ?_
    clear hK K
    refine AW.seq_k fun K hK => AW.region (by kernel_rfl) ?_
    simp -implicitDefEqProofs only [go_sem, seval, ↓reduceIte]
    refine CallA.pure hG (by kernel_rfl) ?_
    simp -implicitDefEqProofs only [go_sem, seval, ↓reduceIte]
    refine (row_spec G hG _ _ b (by omega) (fun n hn => by have := hbk n hn; omega)).mono ?_
    rintro _ _ ⟨s, rfl, hs⟩
    simp -implicitDefEqProofs only [go_sem, seval, ↓reduceIte]
    have hsl : s.l.length = b.l.length := by have := congrArg List.length hs; simpa using this
    have hsk : ∀ n ∈ s.l, n.kids.l.length ≤ 20 := by
      intro n hn
      have : n.v ∈ b.l.map Nd.v := hs ▸ List.mem_map_of_mem hn
      obtain ⟨m, hm, he⟩ := List.mem_map.1 this
      have := hbk m hm
      have e : m.kids.l = n.kids.l := congrArg (·.2.2) he
      rw [← e]; exact this
    refine CallA.pure hG (by kernel_rfl) ?_
    simp -implicitDefEqProofs only [go_sem, seval, ↓reduceIte]
    refine (rOf_spec G hG _ _ s (by omega) (fun n hn => by have := hsk n hn; omega)).mono ?_
    rintro _ _ rfl
    simp -implicitDefEqProofs only [go_sem, seval, ↓reduceIte]
    intro g10
    refine hK _ ?_
    clear hK K
    refine AW.seq_k fun K hK => AW.region (by kernel_rfl) ?_
    simp -implicitDefEqProofs only [go_sem, seval, ↓reduceIte]
    refine hK _ ?_
    clear hK K
    refine AW.seqJ (fun (u : Sl Nd) => st [(1, .int .i64 leaf), (3, .ptr 3 g3 0), (5, .ptr 5 g5 0), (7, encSl .new 3 (encNd .new) r), (12, encSl .new 3 (encNd .new) u)] [(3, .cells .new g3 0 [encSl .old 3 (encNd .old) t]), (5, .cells .new g5 0 [encSl .old 3 (encNd .old) b])]) (fun u => u.l.map Nd.v = (takeP t.l leaf b.l).map Nd.v ∧ u.l.length < 1000 ∧ ∀ n ∈ u.l, n.kids.l.length < 1000) (fun K3 hK3 => ?_) ?_
    · have hrr : rightP r.l = rightP t.l := rightP_v hr
      have hss : rightP s.l = rightP b.l := rightP_v hs
      have hlr : r.l.length < 1000 ∧ ∀ n ∈ r.l, n.kids.l.length < 1000 := ⟨by omega, fun n hn => by have := hrk n hn; omega⟩
      have stay : ¬ (rightP b.l = true ∧ (readyP t.l).contains leaf = true) → r.l.map Nd.v = (takeP t.l leaf b.l).map Nd.v := fun h => hr.trans (takeP_no h).symm
      cases hrt : rightP t.l with
      | false =>
        refine AW.seq_k fun K hK => AW.region (by kernel_rfl) ?_
        simp -implicitDefEqProofs only [go_sem, seval, ↓reduceIte, ofP_right, hrr, hrt]
        refine hK _ ?_
        clear hK K
        refine AW.condS (by simp -implicitDefEqProofs only [go_sem, seval, ↓reduceIte]; rfl) (fun h1 => ?_) (fun h1 => ?_)
        · simp at h1
        · refine AW.skip ?_
          simp -implicitDefEqProofs only [go_sem, seval, ↓reduceIte]
          refine hK3 _ r ⟨stay fun h => ?_, hlr⟩ (Weak.st (by simp -implicitDefEqProofs only [go_sem, seval, ↓reduceIte]) (by simp -implicitDefEqProofs only [go_sem, seval, ↓reduceIte]))
          have := ready_right h.2
          rw [hrt] at this
          cases this
      | true =>
        cases hrb : rightP b.l with
        | false =>
          refine AW.seq_k fun K hK => AW.region (by kernel_rfl) ?_
          simp -implicitDefEqProofs only [go_sem, seval, ↓reduceIte, ofP_right, hrr, hrt, hss, hrb]
          refine hK _ ?_
          clear hK K
          refine AW.condS (by simp -implicitDefEqProofs only [go_sem, seval, ↓reduceIte]; rfl) (fun h1 => ?_) (fun h1 => ?_)
          · simp at h1
          · refine AW.skip ?_
            simp -implicitDefEqProofs only [go_sem, seval, ↓reduceIte]
            exact hK3 _ r ⟨stay (by simp [hrb]), hlr⟩ (Weak.st (by simp -implicitDefEqProofs only [go_sem, seval, ↓reduceIte]) (by simp -implicitDefEqProofs only [go_sem, seval, ↓reduceIte]))
        | true =>
          refine AW.seq_k fun K hK => AW.region (by kernel_rfl) ?_
          simp -implicitDefEqProofs only [go_sem, seval, ↓reduceIte, ofP_right, hrr, hrt, hss, hrb]
          refine hK _ ?_
          clear hK K
          refine AW.condS (by simp -implicitDefEqProofs only [go_sem, seval, ↓reduceIte]; rfl) (fun h1 => ?_) (fun h1 => ?_)
          · clear h1
            obtain ⟨T0, hT⟩ := RowIs.of_right hrt
            obtain ⟨B0, hB⟩ := RowIs.of_right hrb
            have hTr := hT.of_v hr
            have hBs := hB.of_v hs
            have eT := hTr.ofP
            have eB := hBs.ofP
            generalize (ofP r.l).1 = p at eT
            generalize (ofP s.l).1 = q at eB
            have s1 := sz_le hT
            have s2 := sz_le hB
            have hpz : p.op = 0 ∧ p.ks.l = [] ∨ p.v.full = true := by
              rcases hT with ⟨h, _⟩ | ⟨hg, _⟩
              · rw [h] at eT
                refine .inl ⟨by rw [← Pt.op_v, eT]; rfl, ?_⟩
                have := Pt.kids_v p
                rw [eT] at this
                have : p.ks.l.map Pt.v = [] := this.symm
                simpa using this
              · rw [eT]; exact .inr (T.good_full T0 hg).1
            have hpsz : p.v.size ≤ 62 := by
              rcases hT with ⟨h, _⟩ | ⟨hg, _⟩
              · rw [eT, h]; decide
              · rw [eT, (T.good_full T0 hg).2]; omega
            refine AW.seq_k fun K hK => AW.region (by kernel_rfl) ?_
            simp -implicitDefEqProofs only [go_sem, seval, ↓reduceIte]
            refine CallA.pure hG (by kernel_rfl) ?_
            simp -implicitDefEqProofs only [go_sem, seval, ↓reduceIte]
            have hih := rReady_spec G hG p.dep .any p 0 (Nat.le_refl _) (by omega) hpz
            rw [encPt_K, show ((0 : Nat) : Int) = 0 from rfl] at hih
            refine hih.mono ?_
            rintro _ _ rfl
            simp -implicitDefEqProofs only [go_sem, seval, ↓reduceIte]
            refine hK _ ?_
            clear hK K
            rw [show p.v.ready 0 = readyP t.l by rw [eT]; exact ready_eq hT]
            have hrl60 := readyP_len t.l
            generalize hL : readyP t.l = L at hrl60
            refine AW.seq_k fun K hK => AW.region (by kernel_rfl) ?_
            simp -implicitDefEqProofs only [go_sem, seval, ↓reduceIte]
            refine hK _ ?_
            clear hK K
            refine AW.block ?_
            refine AW.for L.length (fun k (u : Sl Nd) => st [(1, .int .i64 leaf), (3, .ptr 3 g3 0), (5, .ptr 5 g5 0), (7, encSl .new 3 (encNd .new) r), (8, .ptr 8 g8 0), (10, .ptr 10 g10 0), (12, encSl .new 3 (encNd .new) u), (13, encSl .new 1 (V.int .i64) (grownS L)), (14, .int .i64 k)]
                [(3, .cells .new g3 0 [encSl .old 3 (encNd .old) t]), (5, .cells .new g5 0 [encSl .old 3 (encNd .old) b]), (8, .cells .new g8 0 [.int .u8 p.op, .int .i64 p.pl, encSl .any 3 (encPt .any) p.ks]), (10, .cells .new g10 0 [.int .u8 q.op, .int .i64 q.pl, encSl .any 3 (encPt .any) q.ks])])
              (fun k u => (u = r ∧ leaf ∉ L.take k) ∨ (leaf ∈ L ∧ u.l.map Nd.v = (takeP t.l leaf b.l).map Nd.v ∧ u.l.length < 1000 ∧ ∀ n ∈ u.l, n.kids.l.length < 1000)) 0 r (Nat.zero_le _) (.inl ⟨rfl, by simp⟩)
              (Weak.st (by simp -implicitDefEqProofs only [go_sem, seval, ↓reduceIte]; try simp) (by simp -implicitDefEqProofs only [go_sem, seval, ↓reduceIte])) ?_
            intro k u hk hR L5 hL5
            refine AW.seq_k fun K6 hK6 => ?_
            refine AW.seq_k fun K hK => AW.region (by kernel_rfl) ?_
            simp -implicitDefEqProofs only [go_sem, seval, ↓reduceIte]
            refine hK _ ?_
            clear hK K
            refine AW.condS (by simp -implicitDefEqProofs only [go_sem, seval, ↓reduceIte]; rfl) (fun h7 => ?_) (fun h7 => ?_)
            · -- true
              refine AW.skip ?_
              simp -implicitDefEqProofs only [go_sem, seval, ↓reduceIte]
              refine hK6 _ ?_
              have hk1 : k < L.length := by simpa using h7
              have hgi := List.getElem?_eq_getElem hk1
              have hm := List.getElem_mem hk1
              generalize hx : L[k] = x at hgi hm
              have hT0g : T0.good := by
                rcases hT with ⟨_, h⟩ | ⟨hg, _⟩
                · rw [h, show readyP [] = [] from rfl] at hL
                  rw [← hL] at hm; cases hm
                · exact hg
              have hp0 : (p.op == 0) = false := by
                rw [← Pt.op_v, eT]
                simpa using T.good_op hT0g
              refine AW.seq_k fun K8 hK8 => ?_
              refine AW.block ?_
              by_cases hxe : x = leaf
              · subst hxe
                refine AW.seq_k fun K hK => AW.region (by kernel_rfl) ?_
                simp -implicitDefEqProofs only [go_sem, seval, ↓reduceIte, hgi, beq_self_eq_true, bne, hp0, Bool.not_false]
                refine hK _ ?_
                clear hK K
                refine AW.condS (by simp -implicitDefEqProofs only [go_sem, seval, ↓reduceIte]; rfl) (fun h9 => ?_) (fun h9 => ?_)
                · -- taken
                  obtain ⟨q1, q2, _, q3, q4, q5⟩ := takeP_row hT hB htl hbl (leaf := x) (by rw [hL]; simpa using hm)
                  have etk := Pt.take_v q p.dep p x (Nat.le_refl _)
                  rw [eT, eB] at etk
                  refine AW.region (by kernel_rfl) ?_
                  simp -implicitDefEqProofs only [go_sem, seval, ↓reduceIte]
                  refine CallA.pure hG (by kernel_rfl) ?_
                  simp -implicitDefEqProofs only [go_sem, seval, ↓reduceIte]
                  have hih := rTake_spec G hG p.dep p x q (takeOk_of p.dep p x (Nat.le_refl _) (by rw [eT]; exact hT0g) (by rw [eT, eB]; omega)) q3 (by omega)
                  rw [encPt_K .any p, encPt_K .any q] at hih
                  refine hih.mono ?_
                  rintro _ _ rfl
                  generalize Pt.take p.dep p x q = z at etk
                  simp -implicitDefEqProofs only [go_sem, seval, ↓reduceIte]
                  refine CallA.pure hG (by kernel_rfl) ?_
                  simp -implicitDefEqProofs only [go_sem, seval, ↓reduceIte]
                  have hzf : z.op = 0 ∨ z.v.full = true := by
                    rw [← Pt.op_v, etk]
                    rcases q1 with ⟨h, _⟩ | ⟨h, _⟩
                    · exact .inl (by rw [h]; rfl)
                    · exact .inr (T.good_full _ h).1
                  have hzs : z.v.size < 1000000000 := by
                    rw [etk]
                    rcases q1 with ⟨h, _⟩ | ⟨h, _⟩
                    · rw [h]; decide
                    · rw [(T.good_full _ h).2]; omega
                  have hih := rRow_spec G hG z.dep z (Nat.le_refl _) hzf hzs
                  rw [encPt_K .any z] at hih
                  refine hih.mono ?_
                  rintro _ _ rfl
                  have hrow : z.v.row.map Nd.v = (takeP t.l x b.l).map Nd.v := by rw [etk]; exact q1.row_v.symm
                  have hlens := (q1.of_v hrow).lens q5
                  generalize z.v.row = row at hrow hlens
                  simp -implicitDefEqProofs only [go_sem, seval, ↓reduceIte]
                  refine hK8 _ ?_
                  refine AW.region (by kernel_rfl) ?_
                  simp -implicitDefEqProofs only [go_sem, seval, ↓reduceIte]
                  refine hL5 _ ⟨hk1, grownS row, .inr ⟨hm, by rw [grownS_l]; exact ⟨hrow, hlens⟩⟩, Weak.st (by simp -implicitDefEqProofs only [go_sem, seval, ↓reduceIte]; exact congrArg _ (w64 (by omega) (by omega))) (by simp -implicitDefEqProofs only [go_sem, seval, ↓reduceIte])⟩
                · simp at h9
              · have hxf : (x == leaf) = false := by simpa using hxe
                refine AW.seq_k fun K hK => AW.region (by kernel_rfl) ?_
                simp -implicitDefEqProofs only [go_sem, seval, ↓reduceIte, hgi, hxf]
                refine hK _ ?_
                clear hK K
                refine AW.condS (by simp -implicitDefEqProofs only [go_sem, seval, ↓reduceIte]; rfl) (fun h9 => ?_) (fun h9 => ?_)
                · simp at h9
                · refine AW.skip ?_
                  simp -implicitDefEqProofs only [go_sem, seval, ↓reduceIte]
                  refine hK8 _ ?_
                  refine AW.region (by kernel_rfl) ?_
                  simp -implicitDefEqProofs only [go_sem, seval, ↓reduceIte]
                  refine hL5 _ ⟨hk1, u, ?_, Weak.st (by simp -implicitDefEqProofs only [go_sem, seval, ↓reduceIte]; exact congrArg _ (w64 (by omega) (by omega))) (by simp -implicitDefEqProofs only [go_sem, seval, ↓reduceIte])⟩
                  rcases hR with ⟨h1, h2⟩ | h
                  · refine .inl ⟨h1, ?_⟩
                    rw [List.take_succ_eq_append_getElem hk1, hx]
                    simp only [List.mem_append, List.mem_singleton, not_or]
                    exact ⟨h2, fun e => hxe e.symm⟩
                  · exact .inr h
            · refine AW.exit ?_
              simp -implicitDefEqProofs only [go_sem, seval, ↓reduceIte]
              have hk1 : k = L.length := by simp at h7; omega
              refine hK3 _ u ?_ (Weak.st (by simp -implicitDefEqProofs only [go_sem, seval, ↓reduceIte]) (by simp -implicitDefEqProofs only [go_sem, seval, ↓reduceIte]))
              rcases hR with ⟨rfl, h2⟩ | ⟨_, h⟩
              · rw [hk1, List.take_length] at h2
                exact ⟨stay (by rw [hL]; simpa using fun _ => h2), hlr⟩
              · exact h
          · simp at h1
    · rintro u ⟨hu, hul, huk⟩
      have hq : (readyP t.l).length < 1000000000 := by have := readyP_len t.l; omega
      obtain ⟨hpl, hpk⟩ := takeP_lens (leaf := leaf) hf1 hf2
      have hok : rightP b.l = true ∧ (readyP t.l).contains leaf = true → TakeOk t.l leaf b.l t.l.length (t.l.length - 1) := by
        intro h
        obtain ⟨T0, hT⟩ := RowIs.of_right (ready_right h.2)
        obtain ⟨B0, hB⟩ := RowIs.of_right h.1
        exact (takeP_row hT hB htl hbl h.2).2.1
      refine AW.rebase hG fun X1 H1 hb1 hI1 => ?_
      simp -implicitDefEqProofs only [go_sem, seval, ↓reduceIte, List.map_cons, List.map_nil, recol_cells, recol_ptr]
      refine AW.seq_k fun K hK => AW.region (by kernel_rfl) ?_
      simp -implicitDefEqProofs only [go_sem, seval, ↓reduceIte]
      refine CallA.pure hG (by kernel_rfl) ?_
      simp -implicitDefEqProofs only [go_sem, seval, ↓reduceIte]
      refine (take_spec G hG _ _ _ _ t leaf b (by omega) (fun n hn => by have := htk n hn; omega) (by omega) (fun n hn => by have := hbk n hn; omega) hq hok).mono ?_
      rintro _ _ rfl
      simp -implicitDefEqProofs only [go_sem, seval, ↓reduceIte]
      intro g15
      refine hK _ ?_
      clear hK K
      refine AW.seq_k fun K4 hK4 => ?_
      refine AW.seq_k fun K hK => AW.region (by kernel_rfl) ?_
      simp -implicitDefEqProofs only [go_sem, seval, ↓reduceIte]
      refine CallA.pure hG (by kernel_rfl) ?_
      simp -implicitDefEqProofs only [go_sem, seval, ↓reduceIte]
      refine (is_spec G hG _ _ _ _ _ u (by omega) (by rw [grownS_l]; exact fun n hn => by have := hpk n hn; omega) (fun n hn => by have := huk n hn; omega)).mono ?_
      rintro _ _ rfl
      simp -implicitDefEqProofs only [go_sem, seval, ↓reduceIte, hu, beq_self_eq_true]
      refine hK _ ?_
      clear hK K
      refine AW.condS (by simp -implicitDefEqProofs only [go_sem, seval, ↓reduceIte]; rfl) (fun h5 => ?_) (fun h5 => ?_)
      · simp at h5
      · refine AW.skip ?_
        simp -implicitDefEqProofs only [go_sem, seval, ↓reduceIte]
        refine hK4 _ ?_
        refine AW.seq_k fun K hK => AW.spoilsK [(3, .ptr 3 g3 0), (7, encSl .old 3 (encNd .old) r)] [(3, .cells .old g3 0 [encSl .old 3 (encNd .old) t])] [] hb1 hI1 hGo (spoil_spec 1000 1000 (by omega) (by omega)) (by intro s hs; simp at hs; subst hs; exact free_tree) (by simp) (by kernel_rfl) (by kernel_rfl) (by kernel_rfl) rfl ?_ ?_ ?_
        · simp -implicitDefEqProofs only [go_sem, seval, ↓reduceIte]
          exact ⟨.ptr _ _ _, old_nds r⟩
        · simp -implicitDefEqProofs only [go_sem, seval, ↓reduceIte]
          simp only [List.mem_singleton, forall_eq]
          exact old_nds t
        · simp -implicitDefEqProofs only [go_sem, seval, ↓reduceIte, List.dropLast]
          refine ⟨shTree_enc (by rw [grownS_l]; omega) (by rw [grownS_l]; exact fun n hn => by have := hpk n hn; omega), rfl, rfl, ?_⟩
          rintro _ rfl
          simp -implicitDefEqProofs only [go_sem, seval, ↓reduceIte]
          refine hK _ ?_
          clear hK K
          refine AW.seq_k fun K hK => AW.region (by kernel_rfl) ?_
          simp -implicitDefEqProofs only [go_sem, seval, ↓reduceIte]
          refine CallA.pure hG (by kernel_rfl) ?_
          simp -implicitDefEqProofs only [go_sem, seval, ↓reduceIte]
          refine (is_spec G hG _ _ _ _ t r (by omega) (fun n hn => by have := htk n hn; omega) (fun n hn => by have := hrk n hn; omega)).mono ?_
          rintro _ _ rfl
          simp -implicitDefEqProofs only [go_sem, seval, ↓reduceIte, hr, beq_self_eq_true]
          refine CallA.pure hG (by kernel_rfl) ?_
          simp -implicitDefEqProofs only [go_sem, seval, ↓reduceIte, List.map_nil]
          refine (works_spec G hG).mono ?_
          rintro _ _ rfl
          simp -implicitDefEqProofs only [go_sem, seval, ↓reduceIte]
          refine hK _ ?_
          clear hK K
          refine AW.ret ?_
          simp -implicitDefEqProofs only [go_sem, seval, ↓reduceIte]
          refine endK_some ?_
          rfl
end Go.Hs
end

section
namespace Go.Hs
open Go.Proofs
set_option maxRecDepth 10000
theorem beq_t {a b : Int} (h : a = b) : (a == b) = true := by simp [h]
theorem beq_f {a b : Int} (h : ¬ a = b) : (a == b) = false := by simpa using h
/- hopscotch/steps.Same$1 -/
theorem sameNd_spec (G : Nat → V) (hG : GOk G) (c1 c2 : Col) (a b : Nd) (ha : a.kids.l.length < 1000000000) :
    Spec Try.prog G 37 [encNd c1 a, encNd c2 b] hNone (fun v _ => v = .bool (decide (a.v = b.v))) := by
  refine Spec.of_code' 0 24 [.tmp 4] Try.func37 rfl rfl rfl rfl fun X => ?_
  refine AW.seq_k fun K hK => AW.region (by kernel_rfl) ?_
  simp -implicitDefEqProofs only [go_sem, seval, ↓reduceIte]
  intro g2 g3
  refine hK _ ?_
  clear hK K
  by_cases e1 : a.op = b.op
  · by_cases e2 : a.pl = b.pl
    · refine AW.seq_k fun K hK => AW.region (by kernel_rfl) ?_
      simp -implicitDefEqProofs only [go_sem, seval, ↓reduceIte, beq_t e1, beq_t e2]
      refine CallA.pure hG (by kernel_rfl) ?_
      simp -implicitDefEqProofs only [go_sem, seval, ↓reduceIte]
      refine (sEqual_spec G hG _ _ a.kids b.kids ha).mono ?_
      rintro _ _ rfl
      simp -implicitDefEqProofs only [go_sem, seval, ↓reduceIte]
      refine hK _ ?_
      clear hK K
      refine AW.ret ?_
      simp -implicitDefEqProofs only [go_sem, seval, ↓reduceIte]
      refine endK_some ?_
      simp only [Nd.v, e1, e2, Prod.mk.injEq, true_and]
      refine congrArg V.bool ?_
      rw [Bool.eq_iff_iff]
      simp
    · refine AW.seq_k fun K hK => AW.region (by kernel_rfl) ?_
      simp -implicitDefEqProofs only [go_sem, seval, ↓reduceIte, beq_t e1, beq_f e2]
      refine hK _ ?_
      clear hK K
      refine AW.ret ?_
      simp -implicitDefEqProofs only [go_sem, seval, ↓reduceIte]
      refine endK_some ?_
      simp [Nd.v, e1, e2]
  · refine AW.seq_k fun K hK => AW.region (by kernel_rfl) ?_
    simp -implicitDefEqProofs only [go_sem, seval, ↓reduceIte, beq_f e1]
    refine hK _ ?_
    clear hK K
    refine AW.ret ?_
    simp -implicitDefEqProofs only [go_sem, seval, ↓reduceIte]
    refine endK_some ?_
    simp [Nd.v, e1]
/- slices.EqualFunc -/
theorem sEqualFunc_spec (G : Nat → V) (hG : GOk G) (c1 c2 c3 c4 : Col) (t u : Sl Nd) (ht : t.l.length < 1000000000) (hks : ∀ n ∈ t.l, n.kids.l.length < 1000000000) :
    Spec Try.prog G 36 [encSl c1 3 (encNd c2) t, encSl c3 3 (encNd c4) u, .func (.func 37) [] []] hNone (fun v _ => v = .bool (decide (t.l.map Nd.v = u.l.map Nd.v))) := by
  refine Spec.of_code' 0 32 [.tmp 6] Try.func36 rfl rfl rfl rfl fun X => ?_
  refine AW.seq_k fun K hK => AW.region (by kernel_rfl) ?_
  simp -implicitDefEqProofs only [go_sem, seval, ↓reduceIte]
  refine hK _ ?_
  clear hK K
  refine AW.seq_k fun K1 hK1 => ?_
  refine AW.seq_k fun K hK => AW.region (by kernel_rfl) ?_
  simp -implicitDefEqProofs only [go_sem, seval, ↓reduceIte]
  refine hK _ ?_
  clear hK K
  refine AW.condS (by simp -implicitDefEqProofs only [go_sem, seval, ↓reduceIte]; rfl) (fun h2 => ?_) (fun h2 => ?_)
  · refine AW.seq_k fun K hK => AW.region (by kernel_rfl) ?_
    simp -implicitDefEqProofs only [go_sem, seval, ↓reduceIte]
    refine hK _ ?_
    clear hK K
    refine AW.ret ?_
    simp -implicitDefEqProofs only [go_sem, seval, ↓reduceIte]
    refine endK_some ?_
    refine congrArg V.bool (Eq.symm (decide_eq_false fun e => ?_))
    have := congrArg List.length e
    simp at this h2
    omega
  · have hl : t.l.length = u.l.length := by simp at h2; omega
    refine AW.skip ?_
    simp -implicitDefEqProofs only [go_sem, seval, ↓reduceIte]
    refine hK1 _ ?_
    refine AW.seq_k fun K3 hK3 => ?_
    refine AW.seq_k fun K hK => AW.region (by kernel_rfl) ?_
    simp -implicitDefEqProofs only [go_sem, seval, ↓reduceIte]
    refine hK _ ?_
    clear hK K
    refine AW.block ?_
    refine AW.for t.l.length (fun k (_ : Unit) => st [(1, encSl c3 3 (encNd c4) u), (2, .func (.func 37) [] []), (15, encSl c1 3 (encNd c2) t), (16, .int .i64 t.l.length), (17, .int .i64 k)] []) (fun k _ => (t.l.take k).map Nd.v = (u.l.take k).map Nd.v) 0 () (Nat.zero_le _) (by simp)
      (Weak.st (by simp -implicitDefEqProofs only [go_sem, seval, ↓reduceIte]; try simp) (by simp -implicitDefEqProofs only [go_sem, seval, ↓reduceIte])) ?_
    intro k _ hk hR L4 hL4
    refine AW.seq_k fun K hK => AW.region (by kernel_rfl) ?_
    simp -implicitDefEqProofs only [go_sem, seval, ↓reduceIte]
    refine hK _ ?_
    clear hK K
    refine AW.seq_k fun K5 hK5 => ?_
    refine AW.condS (by simp -implicitDefEqProofs only [go_sem, seval, ↓reduceIte]; rfl) (fun h6 => ?_) (fun h6 => ?_)
    · refine AW.skip ?_
      simp -implicitDefEqProofs only [go_sem, seval, ↓reduceIte]
      refine hK5 _ ?_
      have hk1 : k < t.l.length := by simpa using h6
      have hk2 : k < u.l.length := by omega
      have hg1 := List.getElem?_eq_getElem hk1
      have hg2 := List.getElem?_eq_getElem hk2
      have hm1 := hks _ (List.getElem_mem hk1)
      generalize hA : t.l[k] = A at hg1 hm1
      generalize hB : u.l[k] = B at hg2
      refine AW.seq_k fun K7 hK7 => ?_
      refine AW.block ?_
      refine AW.seq_k fun K hK => AW.region (by kernel_rfl) ?_
      simp -implicitDefEqProofs only [go_sem, seval, ↓reduceIte, hg1]
      intro g8
      refine hK _ ?_
      clear hK K
      refine AW.seq_k fun K hK => AW.region (by kernel_rfl) ?_
      simp -implicitDefEqProofs only [go_sem, seval, ↓reduceIte, hg2]
      intro g9
      refine hK _ ?_
      clear hK K
      refine AW.seq_k fun K hK => AW.region (by kernel_rfl) ?_
      simp -implicitDefEqProofs only [go_sem, seval, ↓reduceIte]
      refine CallA.pure hG (by kernel_rfl) ?_
      simp -implicitDefEqProofs only [go_sem, seval, ↓reduceIte]
      refine (sameNd_spec G hG _ _ A B hm1).mono ?_
      rintro _ _ rfl
      simp -implicitDefEqProofs only [go_sem, seval, ↓reduceIte]
      refine hK _ ?_
      clear hK K
      refine AW.condS (by simp -implicitDefEqProofs only [go_sem, seval, ↓reduceIte]; rfl) (fun h8 => ?_) (fun h8 => ?_)
      · have h8' : ¬ A.v = B.v := by simpa using h8
        refine AW.seq_k fun K hK => AW.region (by kernel_rfl) ?_
        simp -implicitDefEqProofs only [go_sem, seval, ↓reduceIte]
        refine hK _ ?_
        clear hK K
        refine AW.ret ?_
        simp -implicitDefEqProofs only [go_sem, seval, ↓reduceIte]
        refine endK_some ?_
        refine congrArg V.bool (Eq.symm (decide_eq_false fun e => h8' ?_))
        have e1 : (t.l.map Nd.v)[k]? = (u.l.map Nd.v)[k]? := by rw [e]
        rw [List.getElem?_map, List.getElem?_map, hg1, hg2] at e1
        simpa using e1
      · have h8' : A.v = B.v := by simpa using h8
        refine AW.skip ?_
        simp -implicitDefEqProofs only [go_sem, seval, ↓reduceIte]
        refine hK7 _ ?_
        refine AW.region (by kernel_rfl) ?_
        simp -implicitDefEqProofs only [go_sem, seval, ↓reduceIte]
        refine hL4 _ ⟨hk1, (), ?_, Weak.st (by simp -implicitDefEqProofs only [go_sem, seval, ↓reduceIte]; exact congrArg _ (w64 (by omega) (by omega))) (by simp -implicitDefEqProofs only [go_sem, seval, ↓reduceIte])⟩
        rw [List.take_succ_eq_append_getElem hk1, List.take_succ_eq_append_getElem hk2, List.map_append, List.map_append, hR, hA, hB]
        simp [h8']
    · refine AW.exit ?_
      simp -implicitDefEqProofs only [go_sem, seval, ↓reduceIte]
      refine hK3 _ ?_
      have hk1 : k = t.l.length := by simp at h6; omega
      refine AW.seq_k fun K hK => AW.region (by kernel_rfl) ?_
      simp -implicitDefEqProofs only [go_sem, seval, ↓reduceIte]
      refine hK _ ?_
      clear hK K
      refine AW.ret ?_
      simp -implicitDefEqProofs only [go_sem, seval, ↓reduceIte]
      refine endK_some ?_
      refine congrArg V.bool (Eq.symm (decide_eq_true ?_))
      rw [hk1, List.take_length, hl, List.take_length] at hR
      exact hR
/- hopscotch/steps.Same -/
theorem same_spec (G : Nat → V) (hG : GOk G) (c1 c2 c3 c4 : Col) (t u : Sl Nd) (ht : t.l.length < 1000000000) (hks : ∀ n ∈ t.l, n.kids.l.length < 1000000000) :
    Spec Try.prog G 19 [encTree c1 c2 t, encTree c3 c4 u] hNone (fun v _ => v = .bool (decide (t.l.map Nd.v = u.l.map Nd.v))) := by
  refine Spec.of_code' 0 10 [.tmp 4] Try.func19 rfl rfl rfl rfl fun X => ?_
  refine AW.seq_k fun K hK => AW.region (by kernel_rfl) ?_
  simp -implicitDefEqProofs only [go_sem, seval, ↓reduceIte]
  intro g2 g3
  refine hK _ ?_
  clear hK K
  refine AW.seq_k fun K hK => AW.region (by kernel_rfl) ?_
  simp -implicitDefEqProofs only [go_sem, seval, ↓reduceIte]
  refine CallA.pure hG (by kernel_rfl) ?_
  simp -implicitDefEqProofs only [go_sem, seval, ↓reduceIte, List.map_nil]
  refine (sEqualFunc_spec G hG _ _ _ _ t u ht hks).mono ?_
  rintro _ _ rfl
  simp -implicitDefEqProofs only [go_sem, seval, ↓reduceIte]
  refine hK _ ?_
  clear hK K
  refine AW.ret ?_
  simp -implicitDefEqProofs only [go_sem, seval, ↓reduceIte]
  refine endK_some ?_
  rfl
end Go.Hs
end

section
namespace Go.Hs
open Go.Proofs
set_option maxRecDepth 10000
@[go_sem] theorem ent_new : Col.new.ent = .old := rfl
theorem beq_dec (a b : List VN) : (a == b) = decide (a = b) := by rw [Bool.eq_iff_iff]; simp
def pOf (r : Sl Nd) : Pt := (ofP r.l).1
def encRow (c : Col) (r : Sl Nd) : V := encSl c 3 (encNd c) r
@[go_sem] theorem encRow_K (c : Col) (r : Sl Nd) : encRow c r = encSl c 3 (encNd c) r := rfl
@[go_sem] theorem recol_row (g : Col → Col) (c d : Col) (s : Sl (Sl Nd)) : (encSl c 1 (encRow d) s).recol g = encSl (g c) 1 (encRow (g d)) s :=
  recol_enc g c 1 (fun x => by simp only [encRow, recol_nds]) s
theorem old_trees (l : Sl (Sl Nd)) : (encSl .old 1 (encTree .old .old) l).Old := Old.enc (fun t y hy => by
  simp only [encTree, V.cells, List.mem_singleton] at hy
  subst hy
  exact old_nds t) l
theorem old_rows (l : Sl (Sl Nd)) : (encSl .old 1 (encRow .old) l).Old := Old.enc (fun t y hy => by
  have : (encRow .old t).cells = [encRow .old t] := cells_enc _ _ _ _
  rw [this, List.mem_singleton] at hy
  subst hy
  exact old_nds t) l
theorem shBoxN_inv {N M : Nat} {v : V} (h : ShV .new .new (.ptr true false 1 (fun _ => shNds N M)) v) : ∃ t : Sl Nd, v = .view .new (encTree .new .new t) ∧ t.l.length ≤ N ∧ ∀ n ∈ t.l, n.kids.l.length ≤ M := by
  obtain ⟨u, rfl, h1, h2, h3⟩ := h
  generalize u.cells = cs at *
  match cs, h1 with
  | [a], _ =>
    obtain ⟨t, ht, hl⟩ := shNds_inv (h3 0 (by simp))
    simp only [List.getElem_cons_zero] at ht
    exact ⟨t, by rw [h2, ht]; rfl, hl⟩
theorem shBoxN_enc {N M : Nat} {t : Sl Nd} (h : t.l.length ≤ N) (hk : ∀ n ∈ t.l, n.kids.l.length ≤ M) : ShV .new .new (.ptr true false 1 (fun _ => shNds N M)) (.view .new (encTree .new .new t)) :=
  ⟨_, rfl, rfl, rfl, fun i hi => by
    have hi : i < 1 := hi
    have : i = 0 := by omega
    subst this
    exact shNds_enc h hk⟩
theorem allP_lens {op : Int} {L : List (Sl Nd)} (h : L.all (fun t => rightP t.l) = true → (putS op (L.map Sl.l)).length < 1000 ∧ ∀ n ∈ putS op (L.map Sl.l), n.kids.l.length < 1000) : (allP op (L.map Sl.l)).length < 1000 ∧ ∀ n ∈ allP op (L.map Sl.l), n.kids.l.length < 1000 := by
  unfold allP
  split
  · rename_i h'
    rw [List.all_map] at h'
    exact h h'
  · simp
def rowsV (L : List (Sl Nd)) : List (List VN) := L.map fun t => t.l.map Nd.v
theorem rowsV_app (A : List (Sl Nd)) (a : Sl Nd) : rowsV (A ++ [a]) = rowsV A ++ [a.l.map Nd.v] := by simp [rowsV]
theorem rowsV_len {A B : List (Sl Nd)} (h : rowsV A = rowsV B) : A.length = B.length := by have := congrArg List.length h; simpa [rowsV] using this
theorem rowsV_get {A B : List (Sl Nd)} (h : rowsV A = rowsV B) {k : Nat} {a b : Sl Nd} (ha : A[k]? = some a) (hb : B[k]? = some b) : a.l.map Nd.v = b.l.map Nd.v := by
  have := congrArg (·[k]?) h
  simpa [rowsV, ha, hb] using this
theorem rowsV_right : ∀ {A B : List (Sl Nd)}, rowsV A = rowsV B → A.all (fun t => rightP t.l) = B.all (fun t => rightP t.l)
  | [], [], _ => rfl
  | [], _ :: _, h => by simp [rowsV] at h
  | _ :: _, [], h => by simp [rowsV] at h
  | a :: A, b :: B, h => by
    simp only [rowsV, List.map_cons, List.cons.injEq] at h
    rw [List.all_cons, List.all_cons, rightP_v h.1, rowsV_right (A := A) (B := B) h.2]
/-- The trees of right rows. -/
theorem rows_trees : ∀ {L : List (Sl Nd)}, L.all (fun t => rightP t.l) = true → (∀ t ∈ L, t.l.length ≤ 60) → ∃ Ts, RowsIs (L.map Sl.l) Ts ∧ T.szs Ts ≤ 61 * L.length
  | [], _, _ => ⟨[], trivial, Nat.le_refl _⟩
  | t :: L, h, hl => by
    rw [List.all_cons, Bool.and_eq_true] at h
    obtain ⟨T0, hT⟩ := RowIs.of_right h.1
    obtain ⟨Ts, h1, h2⟩ := rows_trees h.2 fun x hx => hl x (by simp [hx])
    have h3 := sz_le hT
    have h4 := hl t (by simp)
    exact ⟨T0 :: Ts, ⟨hT, h1⟩, by rw [T.szs, List.length_cons]; omega⟩
theorem rows_pts : ∀ {W L : List (Sl Nd)} {Ts : List T}, rowsV W = rowsV L → RowsIs (L.map Sl.l) Ts → (W.map pOf).map Pt.v = Ts
  | [], [], [], _, _ => rfl
  | [], [], _ :: _, _, h => h.elim
  | [], _ :: _, _, h, _ => by simp [rowsV] at h
  | _ :: _, [], _, h, _ => by simp [rowsV] at h
  | _ :: _, _ :: _, [], _, h => h.elim
  | w :: W, l :: L, t :: Ts, h, hT => by
    simp only [rowsV, List.map_cons, List.cons.injEq] at h
    rw [List.map_cons, List.map_cons, rows_pts (W := W) (L := L) h.2 hT.2]
    congr 1
    exact (hT.1.of_v h.1).ofP
/-- What the law knows of putting trees together. -/
structure PutKnow (op : Int) (P : List Pt) (L : List (Sl Nd)) : Prop where
  len : (P.flatMap (Pt.putKids op)).length < 1000000000
  full : (Pt.put op P).op = 0 ∨ (Pt.put op P).v.full = true
  size : (Pt.put op P).v.size < 1000000000
  row : (Pt.put op P).v.row.map Nd.v = (putS op (L.map Sl.l)).map Nd.v
  lens : (putS op (L.map Sl.l)).length < 1000 ∧ ∀ n ∈ putS op (L.map Sl.l), n.kids.l.length < 1000
  ok : ∀ l : Sl (Sl Nd), l.l = L → PutOk op l
theorem put_know {op : Int} (hop : op = 1 ∨ op = 2) {W L : List (Sl Nd)} (hW : rowsV W = rowsV L) (hL : L.length ≤ 6) (hr : L.all (fun t => rightP t.l) = true) (hl : ∀ t ∈ L, t.l.length ≤ 60) : PutKnow op (W.map pOf) L := by
  obtain ⟨Ts, h1, h2⟩ := rows_trees hr hl
  have h3 := rows_pts hW h1
  have h4 := put_law hop h1
  have h5 : (Pt.put op (W.map pOf)).v = T.put op Ts := by rw [Pt.put_v, h3]
  have h6 := put_sz op Ts
  have h7 := put_szs op Ts
  have hsz : T.szs Ts ≤ 366 := by omega
  refine ⟨?_, ?_, ?_, ?_, ?_, ?_⟩
  · rw [← List.length_map Pt.v, flatMap_v, h3]
    have := T.szs_len (Ts.flatMap (Hs.putKids op))
    omega
  · rw [← Pt.op_v, h5]
    rcases h4 with ⟨h, _⟩ | ⟨h, _⟩
    · exact .inl (by rw [h]; rfl)
    · exact .inr (T.good_full _ h).1
  · rw [h5]
    rcases h4 with ⟨h, _⟩ | ⟨h, _⟩
    · rw [h]; decide
    · rw [(T.good_full _ h).2]; omega
  · rw [h5]; exact h4.row_v.symm
  · exact ⟨by have := h4.len.1; omega, fun n hn => by have := (h4.kids n hn).1; omega⟩
  · rintro l rfl
    exact putOk_of hop h1 (by omega)
theorem leaf_row (op pl : Int) : (Pt.leaf op pl).v.row.map Nd.v = (leafN op pl).map Nd.v := by
  unfold Pt.leaf
  split
  · rename_i h; rw [leafN, if_pos h]; rfl
  · rw [Pt.leaf_v]; exact ((leafN_is (op := op) (pl := pl) (by omega) (by omega)).row_v).symm
theorem leaf_full (op pl : Int) : (Pt.leaf op pl).op = 0 ∨ (Pt.leaf op pl).v.full = true := by
  unfold Pt.leaf
  split
  · exact .inl rfl
  · refine .inr ?_
    rw [Pt.leaf_v, T.full_K]
    exact ⟨fun h => by have h : op = 0 := h; omega, fun k hk => by cases hk⟩
theorem leaf_size (op pl : Int) : (Pt.leaf op pl).v.size ≤ 1 := by
  unfold Pt.leaf
  split
  · decide
  · rw [Pt.leaf_v, T.size_K]
    split <;> simp [T.kids]
theorem leafN_len (op pl : Int) : (leafN op pl).length ≤ 1 ∧ ∀ n ∈ leafN op pl, n.kids.l.length = 0 := by
  unfold leafN
  split
  · simp
  · simp [Sl.l]
theorem kids_of {r t : List Nd} {m : Nat} (hr : r.map Nd.v = t.map Nd.v) (ht : ∀ n ∈ t, n.kids.l.length ≤ m) : ∀ n ∈ r, n.kids.l.length ≤ m := by
  intro n hn
  have : n.v ∈ t.map Nd.v := hr ▸ List.mem_map_of_mem hn
  obtain ⟨x, hx, he⟩ := List.mem_map.1 this
  have := ht x hx
  have e : x.kids.l = n.kids.l := congrArg (·.2.2) he
  rw [← e]; exact this
theorem cells_enc_len {α : Type} (c : Col) (m : Nat) (f : α → V) (s : Sl α) : (encSl c m f s).cells.length = 1 := by rw [cells_enc]; rfl
theorem lens_of {r t : List Nd} {m : Nat} (hr : r.map Nd.v = t.map Nd.v) (ht : t.length < m ∧ ∀ n ∈ t, n.kids.l.length < m) : r.length < m ∧ ∀ n ∈ r, n.kids.l.length < m := by
  refine ⟨by have := congrArg List.length hr; simp at this; omega, fun n hn => ?_⟩
  have : n.v ∈ t.map Nd.v := hr ▸ List.mem_map_of_mem hn
  obtain ⟨x, hx, he⟩ := List.mem_map.1 this
  have := ht.2 x hx
  have e : x.kids.l = n.kids.l := congrArg (·.2.2) he
  rw [← e]; exact this
/- hopscotchlaw22.StepsTrees -/
theorem stepsTrees_spec (G : Nat → V) (hG : GOk G) (hGo : ∀ g, (G g).Old) (l : Sl (Sl Nd)) (op pl : Int) :
    Spec Try.prog G 5 [encSl .old 1 (encTree .old .old) l, .int .u8 op, .int .i64 pl] hNone (fun v _ => v = .bool true) := by
  refine Spec.of_code' 0 155 [.tmp 6] Try.func5 rfl rfl rfl rfl fun X => ?_
  refine AW.seq_k fun K hK => AW.region (by kernel_rfl) ?_
  simp -implicitDefEqProofs only [go_sem, seval, ↓reduceIte]
  refine hK _ ?_
  clear hK K
  refine AW.seqJ (fun (_ : Unit) => st [(0, encSl .old 1 (encTree .old .old) l), (1, .int .u8 op), (2, .int .i64 pl)] []) (fun _ => l.l.length ≤ 6) (fun K1 hK1 => ?_) ?_
  · refine AW.seq_k fun K hK => AW.region (by kernel_rfl) ?_
    simp -implicitDefEqProofs only [go_sem, seval, ↓reduceIte]
    refine hK _ ?_
    clear hK K
    refine AW.condS (by simp -implicitDefEqProofs only [go_sem, seval, ↓reduceIte]; rfl) (fun h2 => ?_) (fun h2 => ?_)
    · refine AW.seq_k fun K hK => AW.region (by kernel_rfl) ?_
      simp -implicitDefEqProofs only [go_sem, seval, ↓reduceIte]
      refine CallA.pure hG (by kernel_rfl) ?_
      simp -implicitDefEqProofs only [go_sem, seval, ↓reduceIte, List.map_nil]
      refine (works_spec G hG).mono ?_
      rintro _ _ rfl
      simp -implicitDefEqProofs only [go_sem, seval, ↓reduceIte]
      refine hK _ ?_
      clear hK K
      refine AW.ret ?_
      simp -implicitDefEqProofs only [go_sem, seval, ↓reduceIte]
      refine endK_some ?_
      rfl
    · refine AW.skip ?_
      simp -implicitDefEqProofs only [go_sem, seval, ↓reduceIte]
      exact hK1 _ () (by simp at h2; omega) (Weak.st (by simp -implicitDefEqProofs only [go_sem, seval, ↓reduceIte]) (by simp -implicitDefEqProofs only [go_sem, seval, ↓reduceIte]))
  · intro _ hl6
    refine AW.seq_k fun K hK => AW.region (by kernel_rfl) ?_
    simp -implicitDefEqProofs only [go_sem, seval, ↓reduceIte]
    refine hK _ ?_
    clear hK K
    refine AW.seq_k fun K hK => AW.region (by kernel_rfl) ?_
    simp -implicitDefEqProofs only [go_sem, seval, ↓reduceIte]
    refine hK _ ?_
    clear hK K
    refine AW.seq_k fun K hK => AW.region (by kernel_rfl) ?_
    simp -implicitDefEqProofs only [go_sem, seval, ↓reduceIte]
    refine hK _ ?_
    clear hK K
    refine AW.seqJ (fun (UW : List (Sl Nd) × List (Sl Nd)) => st [(0, encSl .old 1 (encTree .old .old) l), (1, .int .u8 op), (2, .int .i64 pl), (7, encSl .new 3 (encPt .any) (grownS (UW.1.map pOf))), (8, encSl .new 1 (encRow .new) (grownS UW.2)), (9, .bool (UW.2.all fun t => rightP t.l))] [])
      (fun UW => rowsV UW.1 = rowsV l.l ∧ rowsV UW.2 = rowsV l.l ∧ ∀ t ∈ l.l, fewP t.l = true) (fun K3 hK3 => ?_) ?_
    · refine AW.seq_k fun K hK => AW.region (by kernel_rfl) ?_
      simp -implicitDefEqProofs only [go_sem, seval, ↓reduceIte]
      refine hK _ ?_
      clear hK K
      refine AW.block ?_
      refine AW.for l.l.length (fun k (x : (Nat × Nat) × List (Sl Nd) × List (Sl Nd)) => st [(0, encSl .old 1 (encTree .old .old) l), (1, .int .u8 op), (2, .int .i64 pl), (7, grown 53 x.1.1 3 (x.2.1.map pOf)), (8, grown 61 x.1.2 1 x.2.2), (9, .bool (x.2.2.all fun t => rightP t.l)), (10, .int .i64 k)] [(53, grownO x.1.1 (encPt .any) (x.2.1.map pOf)), (61, grownO x.1.2 (encRow .new) x.2.2)])
        (fun k x => rowsV x.2.1 = rowsV (l.l.take k) ∧ rowsV x.2.2 = rowsV (l.l.take k) ∧ ∀ t ∈ l.l.take k, fewP t.l = true) 0 ((0, 0), [], []) (Nat.zero_le _) ⟨rfl, rfl, by simp⟩
        (Weak.st (by simp -implicitDefEqProofs only [go_sem, seval, ↓reduceIte]; simp [grown]) (by simp -implicitDefEqProofs only [go_sem, seval, ↓reduceIte]; exact ⟨rfl, rfl⟩)) ?_
      rintro k ⟨⟨g7, g8⟩, U, W⟩ hk ⟨hRU, hRW, hfew⟩ L4 hL4
      have hRU : rowsV U = rowsV (l.l.take k) := hRU
      have hRW : rowsV W = rowsV (l.l.take k) := hRW
      have hUl := rowsV_len hRU
      have hWl := rowsV_len hRW
      rw [List.length_take] at hUl hWl
      refine AW.seq_k fun K5 hK5 => ?_
      refine AW.seq_k fun K hK => AW.region (by kernel_rfl) ?_
      simp -implicitDefEqProofs only [go_sem, seval, ↓reduceIte]
      refine hK _ ?_
      clear hK K
      refine AW.condS (by simp -implicitDefEqProofs only [go_sem, seval, ↓reduceIte]; rfl) (fun h6 => ?_) (fun h6 => ?_)
      · -- true
        refine AW.skip ?_
        simp -implicitDefEqProofs only [go_sem, seval, ↓reduceIte]
        refine hK5 _ ?_
        have hk1 : k < l.l.length := by simpa using h6
        have hgi := List.getElem?_eq_getElem hk1
        have htake := List.take_succ_eq_append_getElem hk1
        generalize l.l[k] = t at hgi htake
        refine AW.seq_k fun K7 hK7 => ?_
        refine AW.block ?_
        refine AW.seq_k fun K8 hK8 => ?_
        cases hf : fewP t.l with
        | false =>
          refine AW.seq_k fun K hK => AW.region (by kernel_rfl) ?_
          simp -implicitDefEqProofs only [go_sem, seval, ↓reduceIte, hgi]
          refine CallA.pure hG (by kernel_rfl) ?_
          simp -implicitDefEqProofs only [go_sem, seval, ↓reduceIte]
          refine (few_spec G hG _ _ t).mono ?_
          rintro _ _ rfl
          simp -implicitDefEqProofs only [go_sem, seval, ↓reduceIte, hf]
          refine hK _ ?_
          clear hK K
          refine AW.condS (by simp -implicitDefEqProofs only [go_sem, seval, ↓reduceIte]; rfl) (fun h9 => ?_) (fun h9 => ?_)
          · refine AW.seq_k fun K hK => AW.region (by kernel_rfl) ?_
            simp -implicitDefEqProofs only [go_sem, seval, ↓reduceIte]
            refine CallA.pure hG (by kernel_rfl) ?_
            simp -implicitDefEqProofs only [go_sem, seval, ↓reduceIte, List.map_nil]
            refine (works_spec G hG).mono ?_
            rintro _ _ rfl
            simp -implicitDefEqProofs only [go_sem, seval, ↓reduceIte]
            refine hK _ ?_
            clear hK K
            refine AW.ret ?_
            simp -implicitDefEqProofs only [go_sem, seval, ↓reduceIte]
            refine endK_some ?_
            rfl
          · simp at h9
        | true =>
          refine AW.seq_k fun K hK => AW.region (by kernel_rfl) ?_
          simp -implicitDefEqProofs only [go_sem, seval, ↓reduceIte, hgi]
          refine CallA.pure hG (by kernel_rfl) ?_
          simp -implicitDefEqProofs only [go_sem, seval, ↓reduceIte]
          refine (few_spec G hG _ _ t).mono ?_
          rintro _ _ rfl
          simp -implicitDefEqProofs only [go_sem, seval, ↓reduceIte, hf]
          refine hK _ ?_
          clear hK K
          refine AW.condS (by simp -implicitDefEqProofs only [go_sem, seval, ↓reduceIte]; rfl) (fun h9 => ?_) (fun h9 => ?_)
          · simp at h9
          · refine AW.skip ?_
            simp -implicitDefEqProofs only [go_sem, seval, ↓reduceIte]
            refine hK8 _ ?_
            clear hK8 K8 h9
            obtain ⟨htl, htk⟩ := few_lens hf
            refine AW.seq_k fun K hK => AW.region (by kernel_rfl) ?_
            simp -implicitDefEqProofs only [go_sem, seval, ↓reduceIte, hgi]
            refine CallA.pure hG (by kernel_rfl) ?_
            simp -implicitDefEqProofs only [go_sem, seval, ↓reduceIte]
            refine (row_spec G hG _ _ t (by omega) (fun n hn => by have := htk n hn; omega)).mono ?_
            rintro _ _ ⟨r, rfl, hr⟩
            simp -implicitDefEqProofs only [go_sem, seval, ↓reduceIte]
            have hrl : r.l.length = t.l.length := by have := congrArg List.length hr; simpa using this
            have hrk := kids_of hr htk
            refine CallA.pure hG (by kernel_rfl) ?_
            simp -implicitDefEqProofs only [go_sem, seval, ↓reduceIte]
            refine (rOf_spec G hG _ _ r (by omega) (fun n hn => by have := hrk n hn; omega)).mono ?_
            rintro _ _ rfl
            simp -implicitDefEqProofs only [go_sem, seval, ↓reduceIte, ofP_right, rightP_v hr]
            intro g11
            refine hK _ ?_
            clear hK K
            rw [show (ofP r.l).1 = pOf r from rfl]
            refine AW.seqJ (fun (_ : Unit) => st [(0, encSl .old 1 (encTree .old .old) l), (1, .int .u8 op), (2, .int .i64 pl), (7, grown 53 g7 3 (U.map pOf)), (8, grown 61 g8 1 W), (9, .bool ((W.all fun t => rightP t.l) && rightP t.l)), (10, .int .i64 k), (11, .ptr 11 g11 0), (12, .bool (rightP t.l))] [(53, grownO g7 (encPt .any) (U.map pOf)), (61, grownO g8 (encRow .new) W), (11, .cells .new g11 0 [.int .u8 (pOf r).op, .int .i64 (pOf r).pl, encSl .any 3 (encPt .any) (pOf r).ks])])
              (fun _ => True) (fun K8 hK8 => ?_) ?_
            · cases hgd : W.all fun t => rightP t.l with
              | false =>
                refine AW.region (by kernel_rfl) ?_
                simp -implicitDefEqProofs only [go_sem, seval, ↓reduceIte, hgd]
                exact hK8 _ () trivial (Weak.st (by simp -implicitDefEqProofs only [go_sem, seval, ↓reduceIte, hgd, Bool.false_and]) (by simp -implicitDefEqProofs only [go_sem, seval, ↓reduceIte]))
              | true =>
                refine AW.region (by kernel_rfl) ?_
                simp -implicitDefEqProofs only [go_sem, seval, ↓reduceIte, hgd]
                exact hK8 _ () trivial (Weak.st (by simp -implicitDefEqProofs only [go_sem, seval, ↓reduceIte, hgd, Bool.true_and]) (by simp -implicitDefEqProofs only [go_sem, seval, ↓reduceIte]))
            rintro _ _
            refine AW.seq_k fun K hK => AW.region (by kernel_rfl) ?_
            simp -implicitDefEqProofs only [go_sem, seval, ↓reduceIte]
            intro g52
            refine app_grown (f := encPt .any) (l := U.map pOf) (l2 := [pOf r]) (g := g7) (encPt_cells _) rfl (by simp only [List.map_cons, List.map_nil, flat, List.flatMap_cons, List.flatMap_nil, encPt_K]; rfl) rfl (by simp -implicitDefEqProofs only [go_sem, seval, ↓reduceIte]) (roomOk_of (by omega) (by simp; omega)) fun g53 => ?_
            simp -implicitDefEqProofs only [go_sem, seval, ↓reduceIte]
            refine hK _ ?_
            clear hK K
            refine AW.seq_k fun K hK => AW.region (by kernel_rfl) ?_
            simp -implicitDefEqProofs only [go_sem, seval, ↓reduceIte, hgi]
            refine CallA.pure hG (by kernel_rfl) ?_
            simp -implicitDefEqProofs only [go_sem, seval, ↓reduceIte]
            refine (row_spec G hG _ _ t (by omega) (fun n hn => by have := htk n hn; omega)).mono ?_
            rintro _ _ ⟨r2, rfl, hr2⟩
            simp -implicitDefEqProofs only [go_sem, seval, ↓reduceIte]
            intro g60
            refine app_grown (f := encRow .new) (l := W) (l2 := [r2]) (g := g8) (fun x => by simp -implicitDefEqProofs only [go_sem, seval, ↓reduceIte]) rfl (by simp only [List.map_cons, List.map_nil, flat, List.flatMap_cons, List.flatMap_nil, encRow_K]; simp -implicitDefEqProofs only [go_sem, seval, ↓reduceIte]) rfl (by simp -implicitDefEqProofs only [go_sem, seval, ↓reduceIte]) (roomOk_of (by omega) (by simp; omega)) fun g61 => ?_
            simp -implicitDefEqProofs only [go_sem, seval, ↓reduceIte]
            refine hK _ ?_
            clear hK K
            have hq : (readyP t.l).length < 1000000000 := by have := readyP_len t.l; omega
            have p1 : PureC Try.prog G 16 [encTree .old .old t] (.bool (rightP t.l)) := ⟨by kernel_rfl, by
              simp -implicitDefEqProofs only [go_sem, seval, ↓reduceIte]
              refine (right_spec G hG _ _ t (by omega) (fun n hn => by have := htk n hn; omega)).mono ?_
              rintro _ _ rfl
              rfl⟩
            have p2 : PureC Try.prog G 19 [encTree .old .old t, encTree .old .old t] (.bool true) := ⟨by kernel_rfl, by
              simp -implicitDefEqProofs only [go_sem, seval, ↓reduceIte]
              refine (same_spec G hG _ _ _ _ t t (by omega) (fun n hn => by have := htk n hn; omega)).mono ?_
              rintro _ _ rfl
              simp
              rfl⟩
            refine AW.seqJ (fun (_ : Unit) => st [(0, encSl .old 1 (encTree .old .old) l), (1, .int .u8 op), (2, .int .i64 pl), (7, grown 53 g53 3 (U.map pOf ++ [pOf r])), (8, grown 61 g61 1 (W ++ [r2])), (9, .bool ((W.all fun t => rightP t.l) && rightP t.l)), (10, .int .i64 k), (11, .ptr 11 g11 0), (12, .bool (rightP t.l))] [(53, grownO g53 (encPt .any) (U.map pOf ++ [pOf r])), (61, grownO g61 (encRow .new) (W ++ [r2])), (11, .cells .new g11 0 [.int .u8 (pOf r).op, .int .i64 (pOf r).pl, encSl .any 3 (encPt .any) (pOf r).ks])])
              (fun _ => True) (fun K10 hK10 => ?_) ?_
            · cases hrt : rightP t.l with
              | true =>
                rw [hrt] at p1
                refine AW.seq_k fun K hK => AW.regionT ⟨fun i => if i = 4 then .bool true else if i = 16 then .bool true else .top, fun _ => .pure⟩ (by kernel_rfl) hG (by kernel_rfl) (by kernel_rfl) ?_
                simp -implicitDefEqProofs only [go_sem, seval, ↓reduceIte, hgi, hrt, beq_self_eq_true]
                refine ⟨p1, p2, ?_⟩
                refine hK _ ?_
                clear hK K
                refine AW.condS (by simp -implicitDefEqProofs only [go_sem, seval, ↓reduceIte]; rfl) (fun h11 => ?_) (fun h11 => ?_)
                · simp at h11
                · refine AW.skip ?_
                  simp -implicitDefEqProofs only [go_sem, seval, ↓reduceIte]
                  exact hK10 _ () trivial (Weak.st (by simp -implicitDefEqProofs only [go_sem, seval, ↓reduceIte, hrt]) (by simp -implicitDefEqProofs only [go_sem, seval, ↓reduceIte]))
              | false =>
                rw [hrt] at p1
                refine AW.seq_k fun K hK => AW.regionT ⟨fun i => if i = 4 then .bool false else if i = 16 then .bool true else .top, fun _ => .pure⟩ (by kernel_rfl) hG (by kernel_rfl) (by kernel_rfl) ?_
                simp -implicitDefEqProofs only [go_sem, seval, ↓reduceIte, hgi, hrt, beq_self_eq_true]
                refine ⟨p1, p2, ?_⟩
                refine hK _ ?_
                clear hK K
                refine AW.condS (by simp -implicitDefEqProofs only [go_sem, seval, ↓reduceIte]; rfl) (fun h11 => ?_) (fun h11 => ?_)
                · simp at h11
                · refine AW.skip ?_
                  simp -implicitDefEqProofs only [go_sem, seval, ↓reduceIte]
                  exact hK10 _ () trivial (Weak.st (by simp -implicitDefEqProofs only [go_sem, seval, ↓reduceIte, hrt]) (by simp -implicitDefEqProofs only [go_sem, seval, ↓reduceIte]))
            · rintro _ _
              refine AW.seq_k fun K hK => AW.region (by kernel_rfl) ?_
              simp -implicitDefEqProofs only [go_sem, seval, ↓reduceIte]
              refine hK _ ?_
              clear hK K
              refine AW.seqJ (fun (_ : Unit) => st [(0, encSl .old 1 (encTree .old .old) l), (1, .int .u8 op), (2, .int .i64 pl), (7, grown 53 g53 3 (U.map pOf ++ [pOf r])), (8, grown 61 g61 1 (W ++ [r2])), (9, .bool ((W.all fun t => rightP t.l) && rightP t.l)), (10, .int .i64 k), (13, encSl .new 1 (V.int .i64) (grownS (readyP t.l)))] [(53, grownO g53 (encPt .any) (U.map pOf ++ [pOf r])), (61, grownO g61 (encRow .new) (W ++ [r2]))])
                (fun _ => True) (fun K12 hK12 => ?_) ?_
              · cases hrt : rightP t.l with
                | true =>
                  refine AW.seq_k fun K hK => AW.region (by kernel_rfl) ?_
                  simp -implicitDefEqProofs only [go_sem, seval, ↓reduceIte, hrt]
                  refine hK _ ?_
                  clear hK K
                  refine AW.condS (by simp -implicitDefEqProofs only [go_sem, seval, ↓reduceIte]; rfl) (fun h13 => ?_) (fun h13 => ?_)
                  · obtain ⟨T0, hT⟩ := RowIs.of_right hrt
                    have hTr := hT.of_v hr
                    have eT : (pOf r).v = T0 := hTr.ofP
                    have s1 := sz_le hT
                    have hpz : (pOf r).op = 0 ∧ (pOf r).ks.l = [] ∨ (pOf r).v.full = true := by
                      rcases hT with ⟨h, _⟩ | ⟨hg, _⟩
                      · rw [h] at eT
                        refine .inl ⟨by rw [← Pt.op_v, eT]; rfl, ?_⟩
                        have := Pt.kids_v (pOf r)
                        rw [eT] at this
                        have : (pOf r).ks.l.map Pt.v = [] := this.symm
                        simpa using this
                      · rw [eT]; exact .inr (T.good_full T0 hg).1
                    have hpsz : (pOf r).v.size ≤ 62 := by
                      rcases hT with ⟨h, _⟩ | ⟨hg, _⟩
                      · rw [eT, h]; decide
                      · rw [eT, (T.good_full T0 hg).2]; omega
                    have hih := rReady_spec G hG (pOf r).dep .any (pOf r) 0 (Nat.le_refl _) (by omega) hpz
                    rw [encPt_K, show ((0 : Nat) : Int) = 0 from rfl, eT, ready_eq hT] at hih
                    refine AW.region (by kernel_rfl) ?_
                    simp -implicitDefEqProofs only [go_sem, seval, ↓reduceIte]
                    refine CallA.pure hG (by kernel_rfl) ?_
                    simp -implicitDefEqProofs only [go_sem, seval, ↓reduceIte]
                    refine hih.mono ?_
                    rintro _ _ rfl
                    simp -implicitDefEqProofs only [go_sem, seval, ↓reduceIte]
                    exact hK12 _ () trivial (Weak.st (by simp -implicitDefEqProofs only [go_sem, seval, ↓reduceIte, hrt]) (by simp -implicitDefEqProofs only [go_sem, seval, ↓reduceIte]))
                  · simp at h13
                | false =>
                  have hr0 : readyP t.l = [] := by unfold readyP; simp [hrt]
                  refine AW.seq_k fun K hK => AW.region (by kernel_rfl) ?_
                  simp -implicitDefEqProofs only [go_sem, seval, ↓reduceIte, hrt]
                  refine hK _ ?_
                  clear hK K
                  refine AW.condS (by simp -implicitDefEqProofs only [go_sem, seval, ↓reduceIte]; rfl) (fun h13 => ?_) (fun h13 => ?_)
                  · simp at h13
                  · refine AW.skip ?_
                    simp -implicitDefEqProofs only [go_sem, seval, ↓reduceIte]
                    exact hK12 _ () trivial (Weak.st (by simp -implicitDefEqProofs only [go_sem, seval, ↓reduceIte, hrt, hr0]; try rfl) (by simp -implicitDefEqProofs only [go_sem, seval, ↓reduceIte]))
              · rintro _ _
                refine AW.seq_k fun K hK => AW.region (by kernel_rfl) ?_
                simp -implicitDefEqProofs only [go_sem, seval, ↓reduceIte, hgi]
                refine CallA.pure hG (by kernel_rfl) ?_
                simp -implicitDefEqProofs only [go_sem, seval, ↓reduceIte]
                refine (ready_spec G hG _ _ t (by omega) (fun n hn => by have := htk n hn; omega) hq).mono ?_
                rintro _ _ rfl
                simp -implicitDefEqProofs only [go_sem, seval, ↓reduceIte]
                refine CallA.pure hG (by kernel_rfl) ?_
                simp -implicitDefEqProofs only [go_sem, seval, ↓reduceIte]
                refine (sameInts_spec G hG _ _ (grownS (readyP t.l)) (grownS (readyP t.l)) (by rw [grownS_l]; exact hq) (by rw [grownS_l]; exact hq)).mono ?_
                rintro _ _ rfl
                simp -implicitDefEqProofs only [go_sem, seval, ↓reduceIte, beq_self_eq_true]
                refine hK _ ?_
                clear hK K
                refine AW.condS (by simp -implicitDefEqProofs only [go_sem, seval, ↓reduceIte]; rfl) (fun h14 => ?_) (fun h14 => ?_)
                · simp at h14
                · refine AW.skip ?_
                  simp -implicitDefEqProofs only [go_sem, seval, ↓reduceIte]
                  refine hK7 _ ?_
                  have hall : ((W ++ [r2]).all fun t => rightP t.l) = ((W.all fun t => rightP t.l) && rightP t.l) := by rw [List.all_append, List.all_cons, List.all_nil, Bool.and_true, rightP_v hr2]
                  refine AW.region (by kernel_rfl) ?_
                  simp -implicitDefEqProofs only [go_sem, seval, ↓reduceIte]
                  refine hL4 _ ⟨hk1, ((g53, g61), U ++ [r], W ++ [r2]), ⟨?_, ?_, ?_⟩, Weak.st (by simp -implicitDefEqProofs only [go_sem, seval, ↓reduceIte, hall, List.map_append]; exact congrArg _ (w64 (by omega) (by omega))) (by simp -implicitDefEqProofs only [go_sem, seval, ↓reduceIte, List.map_append])⟩
                  · show rowsV (U ++ [r]) = rowsV (l.l.take (k + 1))
                    rw [htake, rowsV_app, rowsV_app, hRU, hr]
                  · show rowsV (W ++ [r2]) = rowsV (l.l.take (k + 1))
                    rw [htake, rowsV_app, rowsV_app, hRW, hr2]
                  · rw [htake]
                    intro u hu
                    rcases List.mem_append.1 hu with h | h
                    · exact hfew u h
                    · rw [List.mem_singleton] at h
                      rw [h]; exact hf
      · -- false
        refine AW.exit ?_
        simp -implicitDefEqProofs only [go_sem, seval, ↓reduceIte]
        have hk1 : k = l.l.length := by simp at h6; omega
        rw [hk1, List.take_length] at hRU hRW hfew
        refine hK3 _ (U, W) ⟨hRU, hRW, hfew⟩ (Weak.stF (fun o => o == 53 || o == 61) ?_ ?_)
        · simp -implicitDefEqProofs only [go_sem, seval, ↓reduceIte]
          exact ⟨Fz.same _, Fz.same _, Fz.same _, Fz.grown rfl rfl (encPt_cells _), Fz.grown rfl rfl (fun x => cells_enc_len _ _ _ _), Fz.same _⟩
        · trivial
    · rintro ⟨U, W⟩ ⟨hU, hW, hfew⟩
      have hU : rowsV U = rowsV l.l := hU
      have hW : rowsV W = rowsV l.l := hW
      have hfl : ∀ t ∈ l.l, t.l.length ≤ 60 := fun t ht => (few_lens (hfew t ht)).1
      have hfk : ∀ t ∈ l.l, ∀ n ∈ t.l, n.kids.l.length ≤ 20 := fun t ht => (few_lens (hfew t ht)).2
      have hWl := rowsV_len hW
      have hlens1 : (allP 1 (l.l.map Sl.l)).length < 1000 ∧ ∀ n ∈ allP 1 (l.l.map Sl.l), n.kids.l.length < 1000 := allP_lens fun h => (put_know (.inl rfl) hU hl6 h hfl).lens
      have hlens2 : (allP 2 (l.l.map Sl.l)).length < 1000 ∧ ∀ n ∈ allP 2 (l.l.map Sl.l), n.kids.l.length < 1000 := allP_lens fun h => (put_know (.inr rfl) hU hl6 h hfl).lens
      refine AW.weak (Weak.stF (fun _ => false) (l := [(0, encSl .old 1 (encTree .old .old) l), (1, .int .u8 op), (2, .int .i64 pl), (7, encSl .any 3 (encPt .any) (grownS (U.map pOf))), (8, encSl .new 1 (encRow .new) (grownS W)), (9, .bool (W.all fun t => rightP t.l))]) (m := []) ?_ trivial) ?_
      · simp -implicitDefEqProofs only [go_sem, seval, ↓reduceIte]
        exact ⟨Fz.same _, Fz.same _, Fz.same _, Fz.any (by simp -implicitDefEqProofs only [go_sem, seval, ↓reduceIte]), Fz.same _, Fz.same _⟩
      rw [rowsV_right hW]
      refine AW.seq_k fun K hK => AW.region (by kernel_rfl) ?_
      simp -implicitDefEqProofs only [go_sem, seval, ↓reduceIte]
      refine hK _ ?_
      clear hK K
      refine AW.seqJ (fun (ab : Sl Nd × Sl Nd) => st [(0, encSl .old 1 (encTree .old .old) l), (1, .int .u8 op), (2, .int .i64 pl), (8, encSl .new 1 (encRow .new) (grownS W)), (14, encSl .new 3 (encNd .new) ab.1), (15, encSl .new 3 (encNd .new) ab.2)] [])
        (fun ab => (ab.1.l.map Nd.v = (allP 1 (l.l.map Sl.l)).map Nd.v ∧ ab.1.l.length < 1000 ∧ ∀ n ∈ ab.1.l, n.kids.l.length < 1000) ∧ (ab.2.l.map Nd.v = (allP 2 (l.l.map Sl.l)).map Nd.v ∧ ab.2.l.length < 1000 ∧ ∀ n ∈ ab.2.l, n.kids.l.length < 1000)) (fun K4 hK4 => ?_) ?_
      · cases hgd : l.l.all fun t => rightP t.l with
        | false =>
          have e1 : ∀ op, allP op (l.l.map Sl.l) = [] := by
            intro op
            unfold allP
            rw [List.all_map, if_neg]
            rw [show (l.l.all (rightP ∘ Sl.l)) = false from hgd]
            simp
          refine AW.seq_k fun K hK => AW.region (by kernel_rfl) ?_
          simp -implicitDefEqProofs only [go_sem, seval, ↓reduceIte, hgd]
          refine hK _ ?_
          clear hK K
          refine AW.condS (by simp -implicitDefEqProofs only [go_sem, seval, ↓reduceIte]; rfl) (fun h1 => ?_) (fun h1 => ?_)
          · simp at h1
          · refine AW.skip ?_
            simp -implicitDefEqProofs only [go_sem, seval, ↓reduceIte]
            exact hK4 _ (.nil, .nil) (by rw [e1, e1]; simp [Sl.l]) (Weak.st (by simp -implicitDefEqProofs only [go_sem, seval, ↓reduceIte]; first | exact rfl | exact ⟨rfl, rfl⟩) (by simp -implicitDefEqProofs only [go_sem, seval, ↓reduceIte]))
        | true =>
          have k1 := put_know (op := 1) (.inl rfl) hU hl6 hgd hfl
          have k2 := put_know (op := 2) (.inr rfl) hU hl6 hgd hfl
          have e1 : ∀ op, allP op (l.l.map Sl.l) = putS op (l.l.map Sl.l) := by
            intro op
            unfold allP
            rw [List.all_map, if_pos]
            exact hgd
          rw [e1] at hlens1 hlens2
          have hUl : (U.map pOf).length < 1000000000 := by have := rowsV_len hU; rw [List.length_map]; omega
          generalize U.map pOf = Q at k1 k2 hUl
          refine AW.seq_k fun K hK => AW.region (by kernel_rfl) ?_
          simp -implicitDefEqProofs only [go_sem, seval, ↓reduceIte, hgd]
          refine hK _ ?_
          clear hK K
          refine AW.condS (by simp -implicitDefEqProofs only [go_sem, seval, ↓reduceIte]; rfl) (fun h1 => ?_) (fun h1 => ?_)
          · refine AW.seq_k fun K hK => AW.region (by kernel_rfl) ?_
            simp -implicitDefEqProofs only [go_sem, seval, ↓reduceIte]
            refine CallA.pure hG (by kernel_rfl) ?_
            simp -implicitDefEqProofs only [go_sem, seval, ↓reduceIte]
            refine (rPut_spec G hG 1 (grownS Q) (by rw [grownS_l]; exact hUl) (by rw [grownS_l]; exact k1.len)).mono ?_
            rintro _ _ rfl
            rw [grownS_l]
            have f1 := k1.full
            have s1 := k1.size
            have r1 := k1.row
            generalize Pt.put 1 Q = z at f1 s1 r1
            simp -implicitDefEqProofs only [go_sem, seval, ↓reduceIte]
            refine CallA.pure hG (by kernel_rfl) ?_
            simp -implicitDefEqProofs only [go_sem, seval, ↓reduceIte]
            have hih := rRow_spec G hG z.dep z (Nat.le_refl _) f1 s1
            rw [encPt_K .any z] at hih
            refine hih.mono ?_
            rintro _ _ rfl
            generalize z.v.row = row1 at r1
            simp -implicitDefEqProofs only [go_sem, seval, ↓reduceIte]
            refine hK _ ?_
            clear hK K
            refine AW.region (by kernel_rfl) ?_
            simp -implicitDefEqProofs only [go_sem, seval, ↓reduceIte]
            refine CallA.pure hG (by kernel_rfl) ?_
            simp -implicitDefEqProofs only [go_sem, seval, ↓reduceIte]
            refine (rPut_spec G hG 2 (grownS Q) (by rw [grownS_l]; exact hUl) (by rw [grownS_l]; exact k2.len)).mono ?_
            rintro _ _ rfl
            rw [grownS_l]
            have f2 := k2.full
            have s2 := k2.size
            have r2 := k2.row
            generalize Pt.put 2 Q = z2 at f2 s2 r2
            simp -implicitDefEqProofs only [go_sem, seval, ↓reduceIte]
            refine CallA.pure hG (by kernel_rfl) ?_
            simp -implicitDefEqProofs only [go_sem, seval, ↓reduceIte]
            have hih := rRow_spec G hG z2.dep z2 (Nat.le_refl _) f2 s2
            rw [encPt_K .any z2] at hih
            refine hih.mono ?_
            rintro _ _ rfl
            generalize z2.v.row = row2 at r2
            simp -implicitDefEqProofs only [go_sem, seval, ↓reduceIte]
            refine hK4 _ (grownS row1, grownS row2) ⟨?_, ?_⟩ (Weak.st (by simp -implicitDefEqProofs only [go_sem, seval, ↓reduceIte]) (by simp -implicitDefEqProofs only [go_sem, seval, ↓reduceIte]))
            · show (grownS row1).l.map Nd.v = _ ∧ (grownS row1).l.length < 1000 ∧ ∀ n ∈ (grownS row1).l, n.kids.l.length < 1000
              rw [grownS_l, e1]
              exact ⟨r1, lens_of r1 hlens1⟩
            · show (grownS row2).l.map Nd.v = _ ∧ (grownS row2).l.length < 1000 ∧ ∀ n ∈ (grownS row2).l, n.kids.l.length < 1000
              rw [grownS_l, e1]
              exact ⟨r2, lens_of r2 hlens2⟩
          · simp at h1
      · rintro ⟨a, b⟩ ⟨⟨ha, hal, hak⟩, ⟨hb, hbl, hbk⟩⟩
        have ha : a.l.map Nd.v = (allP 1 (l.l.map Sl.l)).map Nd.v := ha
        have hb : b.l.map Nd.v = (allP 2 (l.l.map Sl.l)).map Nd.v := hb
        have hal : a.l.length < 1000 := hal
        have hbl : b.l.length < 1000 := hbl
        have hak : ∀ n ∈ a.l, n.kids.l.length < 1000 := hak
        have hbk : ∀ n ∈ b.l, n.kids.l.length < 1000 := hbk
        have hok1 : (l.l.map Sl.l).all rightP = true → PutOk 1 l := fun h => by rw [List.all_map] at h; exact (put_know (.inl rfl) hU hl6 h hfl).ok l rfl
        have hok2 : (l.l.map Sl.l).all rightP = true → PutOk 2 l := fun h => by rw [List.all_map] at h; exact (put_know (.inr rfl) hU hl6 h hfl).ok l rfl
        refine AW.rebase hG fun X1 H1 hb1 hI1 => ?_
        simp -implicitDefEqProofs only [go_sem, seval, ↓reduceIte, List.map_cons, List.map_nil, recol_cells, recol_ptr]
        have hhl : l.l.length < 1000000000 := by omega
        have hht : ∀ t ∈ l.l, t.l.length < 1000000000 := fun t ht => by have := hfl t ht; omega
        have hhk : ∀ t ∈ l.l, ∀ n ∈ t.l, n.kids.l.length < 1000000000 := fun t ht n hn => by have := hfk t ht n hn; omega
        refine AW.seq_k fun K hK => AW.region (by kernel_rfl) ?_
        simp -implicitDefEqProofs only [go_sem, seval, ↓reduceIte]
        refine CallA.pure hG (by kernel_rfl) ?_
        simp -implicitDefEqProofs only [go_sem, seval, ↓reduceIte]
        refine (inOrder_spec G hG _ _ _ l hhl hht hhk hok1).mono ?_
        rintro _ _ rfl
        generalize allP 1 (l.l.map Sl.l) = A at *
        simp -implicitDefEqProofs only [go_sem, seval, ↓reduceIte]
        refine CallA.pure hG (by kernel_rfl) ?_
        simp -implicitDefEqProofs only [go_sem, seval, ↓reduceIte]
        refine (beside_spec G hG _ _ _ l hhl hht hhk hok2).mono ?_
        rintro _ _ rfl
        generalize allP 2 (l.l.map Sl.l) = B at *
        simp -implicitDefEqProofs only [go_sem, seval, ↓reduceIte]
        refine CallA.pure hG (by kernel_rfl) ?_
        simp -implicitDefEqProofs only [go_sem, seval, ↓reduceIte]
        refine (leaf_spec G hG op pl).mono ?_
        rintro _ _ rfl
        simp -implicitDefEqProofs only [go_sem, seval, ↓reduceIte]
        intro g16 g17 g18
        refine hK _ ?_
        clear hK K
        obtain ⟨lfl, lfk⟩ := leafN_len op pl
        have lfr := leaf_row op pl
        have lff := leaf_full op pl
        have lfs := leaf_size op pl
        generalize hlf : leafN op pl = Lf at lfl lfk lfr
        have q1 : PureC Try.prog G 14 [encTree .new .new (grownS A), encSl .old 3 (encNd .old) a] (.bool true) := ⟨by kernel_rfl, by
          simp -implicitDefEqProofs only [go_sem, seval, ↓reduceIte]
          refine (is_spec G hG _ _ _ _ (grownS A) a (by omega) (by rw [grownS_l]; exact fun n hn => by have := hlens1.2 n hn; omega) (fun n hn => by have := hak n hn; omega)).mono ?_
          rintro _ _ rfl
          rw [grownS_l, ha]
          simp -implicitDefEqProofs only [go_sem, seval, ↓reduceIte]⟩
        have q2 : PureC Try.prog G 14 [encTree .new .new (grownS B), encSl .old 3 (encNd .old) b] (.bool true) := ⟨by kernel_rfl, by
          simp -implicitDefEqProofs only [go_sem, seval, ↓reduceIte]
          refine (is_spec G hG _ _ _ _ (grownS B) b (by omega) (by rw [grownS_l]; exact fun n hn => by have := hlens2.2 n hn; omega) (fun n hn => by have := hbk n hn; omega)).mono ?_
          rintro _ _ rfl
          rw [grownS_l, hb]
          simp -implicitDefEqProofs only [go_sem, seval, ↓reduceIte]⟩
        have q3 : PureC Try.prog G 25 [.int .u8 op, .int .i64 pl] (encPt .any (Pt.leaf op pl)) := ⟨by kernel_rfl, by
          simp -implicitDefEqProofs only [go_sem, seval, ↓reduceIte]
          refine (rLeaf_spec G hG op pl).mono ?_
          rintro _ _ rfl
          simp -implicitDefEqProofs only [go_sem, seval, ↓reduceIte]⟩
        have q4 : PureC Try.prog G 11 [encPt .any (Pt.leaf op pl)] (encSl .new 3 (encNd .new) (grownS (Pt.leaf op pl).v.row)) := ⟨by kernel_rfl, by
          have hih := rRow_spec G hG (Pt.leaf op pl).dep (Pt.leaf op pl) (Nat.le_refl _) lff (by omega)
          rw [encPt_K] at hih
          simp -implicitDefEqProofs only [go_sem, seval, ↓reduceIte]
          refine hih.mono ?_
          rintro _ _ rfl
          simp -implicitDefEqProofs only [go_sem, seval, ↓reduceIte]⟩
        rw [encPt_K] at q3 q4
        have q5 : PureC Try.prog G 14 [encTree .new .new (grownS Lf), encSl .new 3 (encNd .new) (grownS (Pt.leaf op pl).v.row)] (.bool true) := ⟨by kernel_rfl, by
          have hll := lens_of (m := 1000) lfr ⟨by omega, fun n hn => by have := lfk n hn; omega⟩
          simp -implicitDefEqProofs only [go_sem, seval, ↓reduceIte]
          refine (is_spec G hG _ _ _ _ (grownS Lf) (grownS (Pt.leaf op pl).v.row) (by rw [grownS_l]; have := hll.1; omega) (by rw [grownS_l]; exact fun n hn => by have := lfk n hn; omega) (by rw [grownS_l]; exact fun n hn => by have := hll.2 n hn; omega)).mono ?_
          rintro _ _ rfl
          rw [grownS_l, grownS_l, lfr]
          simp -implicitDefEqProofs only [go_sem, seval, ↓reduceIte]⟩
        have q6 : PureC Try.prog G 19 [encTree .new .new (grownS A), encTree .new .new (grownS B)] (.bool (decide (A.map Nd.v = B.map Nd.v))) := ⟨by kernel_rfl, by
          simp -implicitDefEqProofs only [go_sem, seval, ↓reduceIte]
          refine (same_spec G hG _ _ _ _ (grownS A) (grownS B) (by rw [grownS_l]; omega) (by rw [grownS_l]; exact fun n hn => by have := hlens1.2 n hn; omega)).mono ?_
          rintro _ _ rfl
          rw [grownS_l, grownS_l]
          simp -implicitDefEqProofs only [go_sem, seval, ↓reduceIte]⟩
        have q7 : PureC Try.prog G 14 [encTree .new .new (grownS A), encSl .old 3 (encNd .old) b] (.bool (decide (A.map Nd.v = B.map Nd.v))) := ⟨by kernel_rfl, by
          simp -implicitDefEqProofs only [go_sem, seval, ↓reduceIte]
          refine (is_spec G hG _ _ _ _ (grownS A) b (by omega) (by rw [grownS_l]; exact fun n hn => by have := hlens1.2 n hn; omega) (fun n hn => by have := hbk n hn; omega)).mono ?_
          rintro _ _ rfl
          rw [grownS_l, hb, beq_dec]
          simp -implicitDefEqProofs only [go_sem, seval, ↓reduceIte]⟩
        refine AW.seqJ (fun (_ : Unit) => st [(0, encSl .old 1 (encTree .old .old) l), (8, encSl .old 1 (encRow .old) (grownS W)), (16, .ptr 16 g16 0), (17, .ptr 17 g17 0)] [(16, .cells .new g16 0 [encSl .new 3 (encNd .new) (grownS A)]), (17, .cells .new g17 0 [encSl .new 3 (encNd .new) (grownS B)])])
          (fun _ => True) (fun K18 hK18 => ?_) ?_
        · generalize hsv : decide (A.map Nd.v = B.map Nd.v) = sv at q6 q7
          cases sv with
          | true =>
            refine AW.seq_k fun K hK => AW.regionT ⟨fun i => if i = 2 then .bool true else if i = 7 then .bool true else if i = 14 then encPt .any (Pt.leaf op pl) else if i = 15 then encSl .new 3 (encNd .new) (grownS (Pt.leaf op pl).v.row) else if i = 16 then .bool true else if i = 22 then .bool true else if i = 25 then .bool true else .top, fun _ => .pure⟩ (by kernel_rfl) hG (by kernel_rfl) (by kernel_rfl) ?_
            simp -implicitDefEqProofs only [go_sem, seval, ↓reduceIte]
            refine ⟨q1, q2, q3, q4, q5, q6, q7, ?_⟩
            refine hK _ ?_
            clear hK K
            refine AW.condS (by simp -implicitDefEqProofs only [go_sem, seval, ↓reduceIte]; rfl) (fun h19 => ?_) (fun h19 => ?_)
            · simp at h19
            · refine AW.skip ?_
              simp -implicitDefEqProofs only [go_sem, seval, ↓reduceIte]
              exact hK18 _ () trivial (Weak.st (by simp -implicitDefEqProofs only [go_sem, seval, ↓reduceIte]) (by simp -implicitDefEqProofs only [go_sem, seval, ↓reduceIte]))
          | false =>
            refine AW.seq_k fun K hK => AW.regionT ⟨fun i => if i = 2 then .bool true else if i = 7 then .bool true else if i = 14 then encPt .any (Pt.leaf op pl) else if i = 15 then encSl .new 3 (encNd .new) (grownS (Pt.leaf op pl).v.row) else if i = 16 then .bool true else if i = 22 then .bool false else if i = 25 then .bool false else .top, fun _ => .pure⟩ (by kernel_rfl) hG (by kernel_rfl) (by kernel_rfl) ?_
            simp -implicitDefEqProofs only [go_sem, seval, ↓reduceIte]
            refine ⟨q1, q2, q3, q4, q5, q6, q7, ?_⟩
            refine hK _ ?_
            clear hK K
            refine AW.condS (by simp -implicitDefEqProofs only [go_sem, seval, ↓reduceIte]; rfl) (fun h19 => ?_) (fun h19 => ?_)
            · simp at h19
            · refine AW.skip ?_
              simp -implicitDefEqProofs only [go_sem, seval, ↓reduceIte]
              exact hK18 _ () trivial (Weak.st (by simp -implicitDefEqProofs only [go_sem, seval, ↓reduceIte]) (by simp -implicitDefEqProofs only [go_sem, seval, ↓reduceIte]))
        · intro _ _
          clear q1 q2 q3 q4 q5 q6 q7
          refine AW.weak (Weak.stF (fun o => o == 17) (l := [(0, encSl .old 1 (encTree .old .old) l), (8, encSl .old 1 (encRow .old) (grownS W)), (16, .ptr 16 g16 0), (17, .view .new (encTree .new .new (grownS B)))]) (m := [(16, .cells .new g16 0 [encSl .new 3 (encNd .new) (grownS A)])]) ?_ ?_) ?_
          · simp -implicitDefEqProofs only [go_sem, seval, ↓reduceIte]
            exact ⟨Fz.same _, Fz.same _, Fz.same _, Fz.ptr rfl rfl⟩
          · simp only [allFzO_cons, allFzO_nil, and_true]
            exact FzO.keep rfl (by simp -implicitDefEqProofs only [go_sem, seval, ↓reduceIte])
          have hA1 : (grownS A).l.length ≤ 1000 := by rw [grownS_l]; omega
          have hA2 : ∀ n ∈ (grownS A).l, n.kids.l.length ≤ 1000 := by rw [grownS_l]; exact fun n hn => by have := hlens1.2 n hn; omega
          have hB1 : (grownS B).l.length ≤ 1000 := by rw [grownS_l]; omega
          have hB2 : ∀ n ∈ (grownS B).l, n.kids.l.length ≤ 1000 := by rw [grownS_l]; exact fun n hn => by have := hlens2.2 n hn; omega
          refine AW.seq_k fun K hK => AW.spoilsK [(0, encSl .old 1 (encTree .old .old) l), (8, encSl .old 1 (encRow .old) (grownS W))] [] [(17, .ptr true false 1 (fun _ => shNds 1000 1000))] hb1 hI1 hGo (spoil_spec 1000 1000 (by omega) (by omega)) (by intro s hs; simp at hs; subst hs; exact free_tree) (by intro p hp; simp at hp; subst hp; exact ⟨rfl, fun i _ => free_nd⟩) (by kernel_rfl) (by kernel_rfl) (by kernel_rfl) rfl ?_ trivial ?_
          · simp -implicitDefEqProofs only [go_sem, seval, ↓reduceIte]
            exact ⟨old_trees l, old_rows _⟩
          simp -implicitDefEqProofs only [go_sem, seval, ↓reduceIte, List.dropLast]
          refine ⟨shTree_enc hA1 hA2, shBoxN_enc hB1 hB2, ?_⟩
          rintro _ ⟨v, _, rfl, hv, rfl⟩
          obtain ⟨y, rfl, hy1, hy2⟩ := shBoxN_inv hv
          simp -implicitDefEqProofs only [go_sem, seval, ↓reduceIte]
          refine hK _ ?_
          clear hK K
          refine AW.seq_k fun K hK => AW.spoilsK [(0, encSl .old 1 (encTree .old .old) l), (8, encSl .old 1 (encRow .old) (grownS W))] [] [] hb1 hI1 hGo (spoil_spec 1000 1000 (by omega) (by omega)) (by intro s hs; simp at hs; subst hs; exact free_tree) (by simp) (by kernel_rfl) (by kernel_rfl) (by kernel_rfl) rfl ?_ trivial ?_
          · simp -implicitDefEqProofs only [go_sem, seval, ↓reduceIte]
            exact ⟨old_trees l, old_rows _⟩
          simp -implicitDefEqProofs only [go_sem, seval, ↓reduceIte, List.dropLast]
          refine ⟨shTree_enc hy1 hy2, ?_⟩
          rintro _ rfl
          simp -implicitDefEqProofs only [go_sem, seval, ↓reduceIte]
          refine hK _ ?_
          clear hK K
          refine AW.seq_k fun K20 hK20 => ?_
          refine AW.seq_k fun K hK => AW.region (by kernel_rfl) ?_
          simp -implicitDefEqProofs only [go_sem, seval, ↓reduceIte]
          refine hK _ ?_
          clear hK K
          refine AW.block ?_
          refine AW.for l.l.length (fun k (_ : Unit) => st [(0, encSl .old 1 (encTree .old .old) l), (8, encSl .old 1 (encRow .old) (grownS W)), (19, .int .i64 k)] []) (fun k _ => True) 0 () (Nat.zero_le _) trivial
            (Weak.st (by simp -implicitDefEqProofs only [go_sem, seval, ↓reduceIte]; try simp) (by simp -implicitDefEqProofs only [go_sem, seval, ↓reduceIte])) ?_
          intro k _ hk _ L21 hL21
          refine AW.seq_k fun K22 hK22 => ?_
          refine AW.seq_k fun K hK => AW.region (by kernel_rfl) ?_
          simp -implicitDefEqProofs only [go_sem, seval, ↓reduceIte]
          refine hK _ ?_
          clear hK K
          refine AW.condS (by simp -implicitDefEqProofs only [go_sem, seval, ↓reduceIte]; rfl) (fun h23 => ?_) (fun h23 => ?_)
          · -- true
            refine AW.skip ?_
            simp -implicitDefEqProofs only [go_sem, seval, ↓reduceIte]
            refine hK22 _ ?_
            have hk1 : k < l.l.length := by simpa using h23
            have hg1 := List.getElem?_eq_getElem hk1
            have hg2 := List.getElem?_eq_getElem (show k < W.length by omega)
            have hm1 := List.getElem_mem hk1
            have hvv := rowsV_get hW hg2 hg1
            generalize l.l[k] = t at hg1 hm1 hvv
            generalize W[k] = r at hg2 hvv
            have q8 : PureC Try.prog G 14 [encTree .old .old t, encSl .old 3 (encNd .old) r] (.bool true) := ⟨by kernel_rfl, by
              have := hfl t hm1
              have hk2 := hfk t hm1
              have hrl : r.l.length = t.l.length := by have := congrArg List.length hvv; simpa using this
              simp -implicitDefEqProofs only [go_sem, seval, ↓reduceIte]
              refine (is_spec G hG _ _ _ _ t r (by omega) (fun n hn => by have := hk2 n hn; omega) (fun n hn => by have := kids_of hvv hk2 n hn; omega)).mono ?_
              rintro _ _ rfl
              rw [hvv]
              simp -implicitDefEqProofs only [go_sem, seval, ↓reduceIte]⟩
            refine AW.seq_k fun K24 hK24 => ?_
            refine AW.block ?_
            refine AW.seq_k fun K hK => AW.regionT ⟨fun i => if i = 8 then .bool true else .top, fun _ => .pure⟩ (by kernel_rfl) hG (by kernel_rfl) (by kernel_rfl) ?_
            simp -implicitDefEqProofs only [go_sem, seval, ↓reduceIte, hg1, hg2]
            refine ⟨q8, ?_⟩
            refine hK _ ?_
            clear hK K
            refine AW.condS (by simp -implicitDefEqProofs only [go_sem, seval, ↓reduceIte]; rfl) (fun h25 => ?_) (fun h25 => ?_)
            · simp at h25
            · refine AW.skip ?_
              simp -implicitDefEqProofs only [go_sem, seval, ↓reduceIte]
              refine hK24 _ ?_
              refine AW.region (by kernel_rfl) ?_
              simp -implicitDefEqProofs only [go_sem, seval, ↓reduceIte]
              refine hL21 _ ⟨hk1, (), trivial, Weak.st (by simp -implicitDefEqProofs only [go_sem, seval, ↓reduceIte]; exact congrArg _ (w64 (by omega) (by omega))) (by simp -implicitDefEqProofs only [go_sem, seval, ↓reduceIte])⟩
          · refine AW.exit ?_
            simp -implicitDefEqProofs only [go_sem, seval, ↓reduceIte]
            refine hK20 _ ?_
            refine AW.seq_k fun K hK => AW.region (by kernel_rfl) ?_
            simp -implicitDefEqProofs only [go_sem, seval, ↓reduceIte]
            refine CallA.pure hG (by kernel_rfl) ?_
            simp -implicitDefEqProofs only [go_sem, seval, ↓reduceIte, List.map_nil]
            refine (works_spec G hG).mono ?_
            rintro _ _ rfl
            simp -implicitDefEqProofs only [go_sem, seval, ↓reduceIte]
            refine hK _ ?_
            clear hK K
            refine AW.ret ?_
            simp -implicitDefEqProofs only [go_sem, seval, ↓reduceIte]
            refine endK_some ?_
            rfl
end Go.Hs
end
