/- Part 25 of the proof of a statement of seat Ythlkacbgaclkkaa: HsTreeData. -/
import Derived.Test.YthlkacbgaclkkaaPart24
set_option linter.unusedSimpArgs false
set_option linter.unusedVariables false
section
/- The data of trees, and how they are values. -/
namespace Go.Hs

theorem recol_enc {α : Type} (g : Col → Col) (c : Col) (m : Nat) {f f' : α → V} (h : ∀ x, (f x).recol g = f' x) (s : Sl α) : (encSl c m f s).recol g = encSl (g c) m f' s := by
  cases s with
  | nil => rfl
  | mk b l =>
    simp only [encSl, V.recol, V.recolL_eq, List.map_map]
    congr 1
    exact List.map_congr_left fun x _ => h x
@[go_sem] theorem recol_encI (g : Col → Col) (c : Col) (m : Nat) (k : IntKind) (s : Sl Int) : (encSl c m (V.int k) s).recol g = encSl (g c) m (V.int k) s := recol_enc g c m (fun _ => rfl) s
@[go_sem] theorem recol_int (g : Col → Col) (k : IntKind) (n : Int) : (V.int k n).recol g = .int k n := rfl
@[go_sem] theorem recol_bool (g : Col → Col) (b : Bool) : (V.bool b).recol g = .bool b := rfl
@[go_sem] theorem recol_nils (g : Col → Col) : V.nils.recol g = .nils := rfl
@[go_sem] theorem recol_agg (g : Col → Col) (l : List V) : (V.agg l).recol g = .agg (l.map (V.recol g)) := by simp [V.recol, V.recolL_eq]
@[go_sem] theorem recol_tuple (g : Col → Col) (l : List V) : (V.tuple l).recol g = .tuple (l.map (V.recol g)) := by simp [V.recol, V.recolL_eq]

structure Nd where
  op : Int
  pl : Int
  kids : Sl Int

def encNd (c : Col) (n : Nd) : V := .agg [.int .u8 n.op, .int .i64 n.pl, encSl c 1 (V.int .i64) n.kids]
@[go_sem] theorem encNd_K (c : Col) (n : Nd) : encNd c n = .agg [.int .u8 n.op, .int .i64 n.pl, encSl c 1 (V.int .i64) n.kids] := rfl
def encNds (c1 c2 : Col) (t : Sl Nd) : V := encSl c1 3 (encNd c2) t
@[go_sem] theorem encNds_K (c1 c2 : Col) (t : Sl Nd) : encNds c1 c2 t = encSl c1 3 (encNd c2) t := rfl
def encTree (c1 c2 : Col) (t : Sl Nd) : V := .agg [encSl c1 3 (encNd c2) t]
@[go_sem] theorem encTree_K (c1 c2 : Col) (t : Sl Nd) : encTree c1 c2 t = .agg [encSl c1 3 (encNd c2) t] := rfl
@[go_sem] theorem recol_nds (g : Col → Col) (c1 c2 : Col) (m : Nat) (s : Sl Nd) : (encSl c1 m (encNd c2) s).recol g = encSl (g c1) m (encNd (g c2)) s :=
  recol_enc g c1 m (fun x => by simp only [encNd, recol_agg, List.map_cons, List.map_nil, recol_int, recol_encI]) s
@[go_sem] theorem recol_trees (g : Col → Col) (c c1 c2 : Col) (m : Nat) (s : Sl (Sl Nd)) : (encSl c m (encTree c1 c2) s).recol g = encSl (g c) m (encTree (g c1) (g c2)) s :=
  recol_enc g c m (fun x => by simp only [encTree, recol_agg, List.map_cons, List.map_nil, recol_nds]) s
theorem Im.nds (c1 c2 : Col) (s : Sl Nd) : (encSl c1 3 (encNd c2) s).Im := Im.enc (fun x y hy => by
  simp only [encNd, V.cells, List.mem_cons, List.not_mem_nil, or_false] at hy
  rcases hy with rfl | rfl | rfl
  · exact .int _ _
  · exact .int _ _
  · exact Im.ints _) s
theorem Im.trees (c c1 c2 : Col) (s : Sl (Sl Nd)) : (encSl c 1 (encTree c1 c2) s).Im := Im.enc (fun x y hy => by
  simp only [encTree, V.cells, List.mem_cons, List.not_mem_nil, or_false] at hy
  subst hy
  exact Im.nds _ _ _) s

theorem contains_step {l : List Int} {k : Nat} {x : Int} (hk : k < l.length) (h : (l.take k).contains x = false) (hne : x ≠ l[k]) : (l.take (k + 1)).contains x = false := by
  rw [List.take_succ_eq_append_getElem hk]
  simp only [List.contains_eq_mem, decide_eq_false_iff_not, List.mem_append, List.mem_singleton] at *
  rintro (h1 | h1)
  · exact h h1
  · exact hne h1

/-- What a node is, whatever memory its parts lie in. -/
def Nd.v (n : Nd) : Int × Int × List Int := (n.op, n.pl, n.kids.l)

def fewP (l : List Nd) : Bool := decide (l.length ≤ 60) && l.all fun n => decide (n.kids.l.length ≤ 20)


/-! ### Parts -/
/-- A tree of the reference, as it lies in memory: 'nl' none: the kids' slice is nil. -/
inductive Pt where
  | mk (op pl : Int) (nl : Option Bool) (kids : List Pt)
/-- The tree itself. -/
inductive T where
  | mk (op pl : Int) (kids : List T)
def Pt.op : Pt → Int | .mk op _ _ _ => op
def Pt.pl : Pt → Int | .mk _ pl _ _ => pl
def Pt.ks : Pt → Sl Pt
  | .mk _ _ none _ => .nil
  | .mk _ _ (some b) k => .mk b k
def T.op : T → Int | .mk op _ _ => op
def T.pl : T → Int | .mk _ pl _ => pl
def T.kids : T → List T | .mk _ _ k => k
mutual
def Pt.v : Pt → T
  | .mk op pl nl k => .mk op pl (match nl with | none => [] | some _ => Pt.vs k)
def Pt.vs : List Pt → List T
  | [] => []
  | p :: r => p.v :: Pt.vs r
end
theorem Pt.vs_eq : ∀ l : List Pt, Pt.vs l = l.map Pt.v
  | [] => rfl
  | p :: r => by simp [Pt.vs, Pt.vs_eq r]
theorem Pt.v_K (p : Pt) : p.v = .mk p.op p.pl (p.ks.l.map Pt.v) := by
  obtain ⟨op, pl, nl, k⟩ := p
  cases nl <;> simp [Pt.v, Pt.op, Pt.pl, Pt.ks, Sl.l, Pt.vs_eq]
mutual
def encPt (c : Col) : Pt → V
  | .mk op pl nl k => .agg [.int .u8 op, .int .i64 pl, match nl with | none => .nils | some b => .slice c b 3 (encPts c k)]
def encPts (c : Col) : List Pt → List V
  | [] => []
  | p :: r => encPt c p :: encPts c r
end
theorem encPts_eq (c : Col) : ∀ l : List Pt, encPts c l = l.map (encPt c)
  | [] => rfl
  | p :: r => by simp [encPts, encPts_eq c r]
@[go_sem] theorem encPt_K (c : Col) (p : Pt) : encPt c p = .agg [.int .u8 p.op, .int .i64 p.pl, encSl c 3 (encPt c) p.ks] := by
  obtain ⟨op, pl, nl, k⟩ := p
  cases nl <;> simp [encPt, Pt.op, Pt.pl, Pt.ks, encSl, encPts_eq]
theorem encPt_cells (c : Col) (p : Pt) : (encPt c p).cells.length = 3 := by rw [encPt_K]; rfl
mutual
theorem recol_pt0 (g : Col → Col) (c : Col) : ∀ p : Pt, (encPt c p).recol g = encPt (g c) p
  | .mk op pl nl k => by
    have := recol_pts0 g c k
    cases nl <;> simp [encPt, V.recol, V.recolL, this]
theorem recol_pts0 (g : Col → Col) (c : Col) : ∀ l : List Pt, V.recolL g (encPts c l) = encPts (g c) l
  | [] => rfl
  | p :: r => by simp [encPts, V.recolL, recol_pt0 g c p, recol_pts0 g c r]
end
@[go_sem] theorem recol_pts (g : Col → Col) (c1 c2 : Col) (m : Nat) (s : Sl Pt) : (encSl c1 m (encPt c2) s).recol g = encSl (g c1) m (encPt (g c2)) s := recol_enc g c1 m (recol_pt0 g c2) s
mutual
def Pt.dep : Pt → Nat
  | .mk _ _ _ k => Pt.deps k + 1
def Pt.deps : List Pt → Nat
  | [] => 0
  | p :: r => max p.dep (Pt.deps r)
end
theorem Pt.deps_le : ∀ {l : List Pt} {p : Pt}, p ∈ l → p.dep ≤ Pt.deps l
  | q :: r, p, h => by
    simp only [Pt.deps]
    cases h with
    | head => omega
    | tail _ h => have := Pt.deps_le h; omega
theorem Pt.dep_kid {p q : Pt} (h : q ∈ p.ks.l) : q.dep < p.dep := by
  obtain ⟨op, pl, nl, k⟩ := p
  cases nl with
  | none => simp [Pt.ks, Sl.l] at h
  | some b => have := Pt.deps_le (show q ∈ k from h); simp only [Pt.dep]; omega
mutual
def T.dep : T → Nat
  | .mk _ _ k => T.deps k + 1
def T.deps : List T → Nat
  | [] => 0
  | p :: r => max p.dep (T.deps r)
end
mutual
def T.size : T → Nat
  | .mk op _ k => if op = 0 then 0 else 1 + T.sizes k
def T.sizes : List T → Nat
  | [] => 0
  | p :: r => p.size + T.sizes r
end
theorem T.sizes_eq : ∀ l : List T, T.sizes l = (l.map T.size).sum
  | [] => rfl
  | p :: r => by simp [T.sizes, T.sizes_eq r]
theorem T.size_K (t : T) : t.size = if t.op = 0 then 0 else 1 + (t.kids.map T.size).sum := by
  obtain ⟨op, pl, k⟩ := t
  rw [← T.sizes_eq]
  rfl
theorem sum_le_of_mem {l : List Nat} {x : Nat} (h : x ∈ l) : x ≤ l.sum := by
  induction l with
  | nil => cases h
  | cons y r ih =>
    simp only [List.sum_cons]
    cases h with
    | head => omega
    | tail _ h => have := ih h; omega
theorem sum_take_le (l : List Nat) (k : Nat) : (l.take k).sum ≤ l.sum := by
  have := congrArg List.sum (List.take_append_drop k l)
  rw [List.sum_append] at this
  omega
theorem Pt.op_v (p : Pt) : p.v.op = p.op := by rw [Pt.v_K]; rfl
theorem Pt.pl_v (p : Pt) : p.v.pl = p.pl := by rw [Pt.v_K]; rfl
theorem Pt.kids_v (p : Pt) : p.v.kids = p.ks.l.map Pt.v := by rw [Pt.v_K]; rfl
mutual
/-- No node of a tree is nothing. -/
def T.full : T → Bool
  | .mk op _ k => op != 0 && T.fulls k
def T.fulls : List T → Bool
  | [] => true
  | p :: r => p.full && T.fulls r
end
theorem T.fulls_eq : ∀ l : List T, T.fulls l = l.all T.full
  | [] => rfl
  | p :: r => by simp [T.fulls, T.fulls_eq r]
theorem T.full_K (t : T) : t.full = true ↔ t.op ≠ 0 ∧ ∀ k ∈ t.kids, k.full = true := by
  obtain ⟨op, pl, k⟩ := t
  simp [T.full, T.op, T.kids, T.fulls_eq]
theorem T.full_size {t : T} (h : t.full = true) : 1 ≤ t.size := by
  rw [T.size_K, if_neg ((T.full_K t).1 h).1]
  omega
theorem length_le_sum {l : List Nat} (h : ∀ x ∈ l, 1 ≤ x) : l.length ≤ l.sum := by
  induction l with
  | nil => simp
  | cons y r ih =>
    have := ih fun x hx => h x (by simp [hx])
    have := h y (by simp)
    simp only [List.length_cons, List.sum_cons]
    omega
theorem T.full_kids {t : T} (h : t.full = true) : t.kids.length + 1 ≤ t.size := by
  obtain ⟨h1, h2⟩ := (T.full_K t).1 h
  rw [T.size_K, if_neg h1]
  have := length_le_sum (l := t.kids.map T.size) (by intro x hx; obtain ⟨k, hk, rfl⟩ := List.mem_map.1 hx; exact T.full_size (h2 k hk))
  simp at this
  omega
mutual
/-- The places of the leaves that are ready. -/
def T.ready : T → Nat → List Int
  | .mk op _ k, b => if op ≥ 3 then [(b : Int)] else T.readys op true k b
def T.readys (op : Int) : Bool → List T → Nat → List Int
  | _, [], _ => []
  | first, p :: r, b => (if op = 2 ∨ first = true then p.ready b else []) ++ T.readys op false r (b + p.size)
end
theorem T.ready_K (t : T) (b : Nat) : t.ready b = if t.op ≥ 3 then [(b : Int)] else T.readys t.op true t.kids b := by
  obtain ⟨op, pl, k⟩ := t
  rw [T.ready]
  rfl
def T.zero : T := .mk 0 0 []
def putKids (op : Int) (t : T) : List T := if t.op = op then t.kids else if t.op = 0 then [] else [t]
/-- Trees put together. -/
def T.put (op : Int) (l : List T) : T :=
  match l.flatMap (putKids op) with
  | [] => .zero
  | [x] => x
  | ks => .mk op 0 ks
/-- A part out of what stands in memory. -/
def Pt.of (op pl : Int) : Sl Pt → Pt
  | .nil => .mk op pl none []
  | .mk b l => .mk op pl (some b) l
theorem encPt_of (c : Col) (op pl : Int) (s : Sl Pt) : encPt c (Pt.of op pl s) = .agg [.int .u8 op, .int .i64 pl, encSl c 3 (encPt c) s] := by
  rw [encPt_K]
  cases s <;> rfl
theorem Pt.of_v (op pl : Int) (s : Sl Pt) : (Pt.of op pl s).v = .mk op pl (s.l.map Pt.v) := by
  rw [Pt.v_K]
  cases s <;> rfl
def Pt.putKids (op : Int) (p : Pt) : List Pt := if p.op = op then p.ks.l else if p.op = 0 then [] else [p]
def Pt.putOf (op : Int) (l : List Pt) : Pt :=
  match l with
  | [] => .mk 0 0 none []
  | [x] => x
  | ks => Pt.of op 0 (grownS ks)
theorem Pt.putOf_more (op : Int) {l : List Pt} (h0 : l ≠ []) (h1 : l.length ≠ 1) : Pt.putOf op l = Pt.of op 0 (grownS l) := by
  match l, h0, h1 with
  | [], h0, _ => exact absurd rfl h0
  | [x], _, h1 => exact absurd rfl h1
  | x :: y :: r, _, _ => rfl
def Pt.put (op : Int) (l : List Pt) : Pt := Pt.putOf op (l.flatMap (Pt.putKids op))
theorem Pt.putKids_v (op : Int) (p : Pt) : (Pt.putKids op p).map Pt.v = Hs.putKids op p.v := by
  unfold Pt.putKids Hs.putKids
  rw [Pt.op_v]
  split
  · rw [Pt.kids_v]
  · split <;> rfl
theorem Pt.put_v (op : Int) (l : List Pt) : (Pt.put op l).v = T.put op (l.map Pt.v) := by
  have h : (l.map Pt.v).flatMap (Hs.putKids op) = (l.flatMap (Pt.putKids op)).map Pt.v := by
    rw [List.map_flatMap, List.flatMap_map]
    simp only [Pt.putKids_v]
  unfold Pt.put Pt.putOf T.put
  rw [h]
  match l.flatMap (Pt.putKids op) with
  | [] => rfl
  | [x] => rfl
  | x :: y :: r => simp [Pt.of_v, grownS_l]
/-- A tree with another one in place of a leaf, as the reference does it, in memory. -/
def Pt.takes (n : Nat) (t : Pt → Int → Pt) (b : Pt) : List Pt → Int → List Pt
  | [], _ => []
  | p :: r, leaf => (if 0 ≤ leaf ∧ leaf < p.v.size then t p leaf else p) :: Pt.takes n t b r (leaf - p.v.size)
def Pt.take : Nat → Pt → Int → Pt → Pt
  | 0, p, _, _ => p
  | n + 1, p, leaf, b => if p.op ≥ 3 then b else Pt.put p.op (Pt.takes n (fun q l => Pt.take n q l b) b p.ks.l leaf)
/-! ### Rows -/
def Nd.shift (b : Nat) (n : Nd) : Nd := ⟨n.op, n.pl, grownS (n.kids.l.map fun x => x + (b : Int))⟩
mutual
/-- A tree's nodes, as the reference writes them. -/
def T.row : T → List Nd
  | .mk op pl k => if op = 0 then [] else T.rows k 0 ++ [⟨op, pl, grownS (T.rowKids k 0)⟩]
def T.rows : List T → Nat → List Nd
  | [], _ => []
  | p :: r, b => p.row.map (Nd.shift b) ++ T.rows r (b + p.row.length)
def T.rowKids : List T → Nat → List Int
  | [], _ => []
  | p :: r, b => (((b + p.row.length : Nat) : Int) - 1) :: T.rowKids r (b + p.row.length)
end
theorem T.row_K (t : T) : t.row = if t.op = 0 then [] else T.rows t.kids 0 ++ [⟨t.op, t.pl, grownS (T.rowKids t.kids 0)⟩] := by
  obtain ⟨op, pl, k⟩ := t
  rw [T.row]
  rfl
mutual
theorem T.row_len : ∀ t : T, t.full = true → t.row.length = t.size
  | .mk op pl k, h => by
    simp only [T.full, Bool.and_eq_true, bne_iff_ne] at h
    rw [T.row, T.size, if_neg h.1, if_neg h.1, List.length_append, T.rows_len k 0 h.2]
    simp; omega
theorem T.rows_len : ∀ (l : List T) (b : Nat), T.fulls l = true → (T.rows l b).length = T.sizes l
  | [], _, _ => rfl
  | p :: r, b, h => by
    simp only [T.fulls, Bool.and_eq_true] at h
    rw [T.rows, T.sizes, List.length_append, List.length_map, T.row_len p h.1, T.rows_len r _ h.2]
end
theorem T.rowKids_mem : ∀ (l : List T) (b : Nat), T.fulls l = true → ∀ x ∈ T.rowKids l b, (0 : Int) ≤ x ∧ x < b + T.sizes l
  | [], _, _, x, hx => by simp [T.rowKids] at hx
  | p :: r, b, h, x, hx => by
    simp only [T.fulls, Bool.and_eq_true] at h
    have h1 := T.full_size h.1
    have h2 := T.row_len p h.1
    rw [T.rowKids, List.mem_cons] at hx
    rw [T.sizes]
    rcases hx with rfl | hx
    · omega
    · have := T.rowKids_mem r _ h.2 x hx
      omega
mutual
theorem T.row_kids : ∀ t : T, t.full = true → ∀ n ∈ t.row, ∀ x ∈ n.kids.l, (0 : Int) ≤ x ∧ x < t.size
  | .mk op pl k, h, n, hn, x, hx => by
    simp only [T.full, Bool.and_eq_true, bne_iff_ne] at h
    rw [T.row, if_neg h.1, List.mem_append, List.mem_singleton] at hn
    rw [T.size, if_neg h.1]
    rcases hn with hn | rfl
    · have := T.rows_kids k 0 h.2 n hn x hx
      omega
    · rw [grownS_l] at hx
      have := T.rowKids_mem k 0 h.2 x hx
      omega
theorem T.rows_kids : ∀ (l : List T) (b : Nat), T.fulls l = true → ∀ n ∈ T.rows l b, ∀ x ∈ n.kids.l, (0 : Int) ≤ x ∧ x < b + T.sizes l
  | [], _, _, n, hn, _, _ => by simp [T.rows] at hn
  | p :: r, b, h, n, hn, x, hx => by
    simp only [T.fulls, Bool.and_eq_true] at h
    have h2 := T.row_len p h.1
    rw [T.rows, List.mem_append, List.mem_map] at hn
    rw [T.sizes]
    rcases hn with ⟨m, hm, rfl⟩ | hn
    · simp only [Nd.shift, grownS_l, List.mem_map] at hx
      obtain ⟨y, hy, rfl⟩ := hx
      have := T.row_kids p h.1 m hm y hy
      omega
    · have := T.rows_kids r _ h.2 n hn x hx
      omega
end
theorem T.kids_len : ∀ (l : List T) (b : Nat), (T.rowKids l b).length = l.length
  | [], _ => rfl
  | p :: r, b => by rw [T.rowKids, List.length_cons, T.kids_len r, List.length_cons]
theorem T.fulls_len : ∀ l : List T, T.fulls l = true → l.length ≤ T.sizes l
  | [], _ => by simp
  | p :: r, h => by
    simp only [T.fulls, Bool.and_eq_true] at h
    have h1 := T.full_size h.1
    have := T.fulls_len r h.2
    rw [List.length_cons, T.sizes]; omega
mutual
theorem T.row_klen : ∀ t : T, t.full = true → ∀ n ∈ t.row, n.kids.l.length ≤ t.size
  | .mk op pl k, h, n, hn => by
    simp only [T.full, Bool.and_eq_true, bne_iff_ne] at h
    rw [T.row, if_neg h.1, List.mem_append, List.mem_singleton] at hn
    rw [T.size, if_neg h.1]
    rcases hn with hn | rfl
    · have := T.rows_klen k 0 h.2 n hn
      omega
    · rw [grownS_l, T.kids_len]
      have := T.fulls_len k h.2
      omega
theorem T.rows_klen : ∀ (l : List T) (b : Nat), T.fulls l = true → ∀ n ∈ T.rows l b, n.kids.l.length ≤ T.sizes l
  | [], _, _, n, hn => by simp [T.rows] at hn
  | p :: r, b, h, n, hn => by
    simp only [T.fulls, Bool.and_eq_true] at h
    rw [T.rows, List.mem_append, List.mem_map] at hn
    rw [T.sizes]
    rcases hn with ⟨m, hm, rfl⟩ | hn
    · simp only [Nd.shift, grownS_l, List.length_map]
      have := T.row_klen p h.1 m hm
      omega
    · have := T.rows_klen r _ h.2 n hn
      omega
end
end Go.Hs
end
