/- For every input ETypesPartsS returns true, and its arguments read as before. No condition. -/
/- Part 44 of the proof of a statement of seat YtpoiceejhcpnaaaGreatDoor: HsTypLaw2 HsETypL2 HsETypL3 HsEExpLaid HsEExpLaidG HsEExpArgs HsETypesPartsS. -/
import Derived.Test.YtpoiceejhcpnaaaGreatDoorPart40
import Derived.Test.YtpoiceejhcpnaaaGreatDoorPart42
import Derived.Test.YtpoiceejhcpnaaaGreatDoorPart43
import Derived.Test.YtpoiceejhcpnaaaGreatDoorRows
import Derived.ProofKit
import Derived.OpenShut
import Derived.LaidLaws
import Derived.Stop.LaidErr
import Derived.Lib.LaidTab
import Derived.Handed
import Derived.ChangeMaps5
import Derived.Test.YtpoiceejhcpnaaaGreatDoorTie
import Derived.Test.YtpoiceejhcpnaaaGreatDoorCards
set_option linter.unusedSimpArgs false
set_option linter.unusedVariables false
section
/- A part of what has a kind. Plain law. -/
namespace Go.Hs
theorem goX_ok {names : List (List UInt8)} : ∀ (l : List X) (i : Int) (acc : List Int), (goX names l i acc).2.2 = 0 → (∀ y ∈ l, kindX names y ≠ 0) ∧ goX names l i acc = (acc ++ l.map (kindX names), 0, 0)
  | [], i, acc, _ => ⟨fun y hy => (by cases hy), by simp [goX]⟩
  | y :: r, i, acc, h => by
    rw [goX] at h ⊢
    by_cases h1 : kindX names y = 0
    · rw [if_pos h1] at h; cases h
    · rw [if_neg h1] at h ⊢
      obtain ⟨h2, h3⟩ := goX_ok r (i + 1) _ h
      refine ⟨fun z hz => ?_, by rw [h3]; simp⟩
      cases hz with
      | head => exact h1
      | tail _ hz => exact h2 z hz
theorem goX_all {names : List (List UInt8)} : ∀ (l : List X) (i : Int) (acc : List Int), (∀ y ∈ l, kindX names y ≠ 0) → goX names l i acc = (acc ++ l.map (kindX names), 0, 0)
  | [], i, acc, _ => by simp [goX]
  | y :: r, i, acc, h => by
    rw [goX, if_neg (h y (by simp)), goX_all r _ _ fun z hz => h z (by simp [hz])]
    simp
theorem goX_none {names : List (List UInt8)} : ∀ (l : List X) (i : Int) (acc : List Int), (∃ y ∈ l, kindX names y = 0) → (goX names l i acc).1 = [] ∧ (goX names l i acc).2.2 = 90
  | [], i, acc, h => by obtain ⟨y, hy, _⟩ := h; cases hy
  | y :: r, i, acc, h => by
    rw [goX]
    by_cases h1 : kindX names y = 0
    · rw [if_pos h1]; exact ⟨rfl, rfl⟩
    · rw [if_neg h1]
      refine goX_none r _ _ ?_
      obtain ⟨z, hz, hz2⟩ := h
      cases hz with
      | head => exact absurd hz2 h1
      | tail _ hz => exact ⟨z, hz, hz2⟩
theorem mem_subs {x y : X} (h : y ∈ subs x) : ∃ b, Sub x y b := by
  obtain ⟨i, hi, e⟩ := List.mem_iff_getElem.1 h
  obtain ⟨z, b, h1, h2, h3, h4⟩ := sub_at x i (by rw [← subs_len]; exact hi)
  rw [List.getElem?_eq_getElem hi, e] at h3
  cases h3
  exact ⟨b, h1⟩
theorem Sub.mem {x y : X} {b : Nat} (h : Sub x y b) : y ∈ subs x := List.mem_of_getElem? h.get
/-- The answer, of a right row. -/
def checkX (d : Nat) : Prop := 0 < d ∧ d ≤ 64
def shiftN (b : Int) (n : XN) : XN := { n with a := max (-1) (n.a - b), b := max (-1) (n.b - b), c := max (-1) (n.c - b) }
theorem row_shift : ∀ (y : X) (b c : Int), 0 ≤ b → 0 ≤ c → (y.row (b + c)).map (shiftN b) = y.row c
  | .leaf op num name, b, c, hb, hc => by
    have : max (-1) (-1 - b) = (-1 : Int) := by omega
    simp only [X.row, List.map_cons, List.map_nil, shiftN, this]
  | .un op a, b, c, hb, hc => by
    have e1 : max (-1) (-1 - b) = (-1 : Int) := by omega
    have hp := a.size_pos
    have e2 : max (-1) (b + c + a.size - 1 - b) = c + a.size - 1 := by omega
    simp only [X.row, List.map_append, List.map_cons, List.map_nil, shiftN, e1, e2, row_shift a b c hb hc]
  | .bin op x y, b, c, hb, hc => by
    have e1 : max (-1) (-1 - b) = (-1 : Int) := by omega
    have hp := x.size_pos
    have hp2 := y.size_pos
    have e2 : max (-1) (b + c + x.size - 1 - b) = c + x.size - 1 := by omega
    have e3 : max (-1) (b + c + x.size + y.size - 1 - b) = c + x.size + y.size - 1 := by omega
    have i2 := row_shift y b (c + x.size) hb (by omega)
    rw [← Int.add_assoc] at i2
    simp only [X.row, List.map_append, List.map_cons, List.map_nil, shiftN, e1, e2, e3, row_shift x b c hb hc, i2]
  | .ite x y z, b, c, hb, hc => by
    have hp := x.size_pos
    have hp2 := y.size_pos
    have hp3 := z.size_pos
    have e2 : max (-1) (b + c + x.size - 1 - b) = c + x.size - 1 := by omega
    have e3 : max (-1) (b + c + x.size + y.size - 1 - b) = c + x.size + y.size - 1 := by omega
    have e4 : max (-1) (b + c + x.size + y.size + z.size - 1 - b) = c + x.size + y.size + z.size - 1 := by omega
    have i2 := row_shift y b (c + x.size) hb (by omega)
    rw [← Int.add_assoc] at i2
    have i3 := row_shift z b (c + x.size + y.size) hb (by omega)
    rw [← Int.add_assoc, ← Int.add_assoc] at i3
    simp only [X.row, List.map_append, List.map_cons, List.map_nil, shiftN, e2, e3, e4, row_shift x b c hb hc, i2, i3]
/-- The part's row, out of the whole row. -/
theorem Sub.shift {x y : X} {b : Nat} (h : Sub x y b) : (((x.row 0).drop b).take y.size).map (shiftN b) = y.row 0 := by
  obtain ⟨pre, post, e, hb⟩ := h.at (At.whole x)
  rw [Nat.zero_add] at hb e
  have hl : (y.row ((b : Nat) : Int)).length = y.size := y.row_len _
  have ht : ((x.row 0).drop b).take y.size = y.row (b : Nat) := by
    rw [e, List.append_assoc, ← hb, List.drop_left, ← hl, hb, List.take_left]
  rw [ht]
  have := row_shift y b 0 (by omega) (by omega)
  rw [Int.add_zero] at this
  exact this
end Go.Hs
end

section
namespace Go.Hs
open Go.Proofs
set_option maxRecDepth 10000
theorem checkP_row {x : X} (h : x.ok = true) : checkP (x.row 0) = if x.depth > 64 then 3 else 0 := by
  have hd := depth_row h
  have hp := x.depth_pos
  unfold checkP
  rw [hd, if_neg (by omega)]
  by_cases h2 : x.depth > 64
  · rw [if_pos (by omega), if_pos h2]
  · rw [if_neg (by omega), if_neg h2]
theorem kindsP_row {names : List (List UInt8)} {x : X} (h : x.ok = true) (hc : checkP (x.row 0) = 0) : kindsP names (x.row 0) = goX names (subs x) 0 [] := by
  unfold kindsP
  rw [if_neg (by simpa using hc)]
  have := goN_goX (names := names) x x.size 0 (by omega)
  simp only [List.drop_zero, List.take_zero, List.map_nil] at this
  exact this
/-- A right row that has kinds: they are its parts'. -/
theorem kindsP_tree {names : List (List UInt8)} {l : List XN} (h : (kindsP names l).2.2 = 0) : ∃ x : X, x.ok = true ∧ l = x.row 0 ∧ checkP (x.row 0) = 0 ∧ (∀ y ∈ subs x, kindX names y ≠ 0) ∧ kindsP names l = ((subs x).map (kindX names), 0, 0) := by
  have hc : checkP l = 0 := by
    unfold kindsP at h
    by_cases hc : checkP l = 0
    · exact hc
    · rw [if_pos hc] at h; exact absurd h hc
  have hdep : depthP l ≠ 0 := by
    intro hd
    rw [checkP, if_pos hd] at hc
    cases hc
  obtain ⟨x, hx, rfl⟩ := depth_none hdep
  rw [kindsP_row hx hc] at h ⊢
  obtain ⟨h1, h2⟩ := goX_ok _ _ _ h
  exact ⟨x, hx, rfl, hc, h1, h2⟩
theorem kindsP_bad {names : List (List UInt8)} {l : List XN} (h : (kindsP names l).2.2 ≠ 0) : (kindsP names l).1 = [] := by
  unfold kindsP at h ⊢
  by_cases hc : checkP l = 0
  · rw [if_neg (by simpa using hc)] at h ⊢
    have key : ∀ (l : List XN) (i : Int) (acc : List Int), (goN names l i acc).2.2 ≠ 0 → (goN names l i acc).1 = [] := by
      intro l
      induction l with
      | nil => intro i acc h; exact absurd rfl h
      | cons n r ih =>
        intro i acc h
        rw [goN] at h ⊢
        split
        · rfl
        · rename_i h1
          rw [if_neg h1] at h
          exact ih _ _ h
    exact key _ _ _ h
  · rw [if_pos hc]
theorem part_ok {names : List (List UInt8)} {x y : X} {b : Nat} (hx : x.ok = true) (hc : checkP (x.row 0) = 0) (hk : ∀ y ∈ subs x, kindX names y ≠ 0) (h : Sub x y b) : ofTP names (y.row 0) = (kindX names y, 0, 0) := by
  have hy := h.ok hx
  have hcy : checkP (y.row 0) = 0 := by
    rw [checkP_row hx] at hc
    rw [checkP_row hy]
    have := h.depth
    by_cases h2 : x.depth > 64
    · rw [if_pos h2] at hc; cases hc
    · rw [if_neg (by omega)]
  have hg : kindsP names (y.row 0) = ((subs y).map (kindX names), 0, 0) := by
    rw [kindsP_row hy hcy, goX_all _ _ _ fun z hz => ?_]
    · rfl
    · obtain ⟨c, hc2⟩ := mem_subs hz
      exact hk z (h.trans hc2).mem
  unfold ofTP
  rw [hg, if_neg (by simp)]
  have hl : ((subs y).map (kindX names)).length = y.size := by rw [List.length_map, subs_len]
  show (((subs y).map (kindX names)).getD (((subs y).map (kindX names)).length - 1) 0, (0 : Int), (0 : Int)) = _
  rw [hl, List.getD_eq_getElem?_getD, List.getElem?_map, subs_top]; rfl
/- hopscotchkit.Pick -/
theorem kPick_spec (G : Nat → V) (hG : GOk G) (a n : Int) (ha : InK .i64 a) (hn : 0 < n ∧ n < 1000000) : Spec Tryz.prog G 22 [.int .i64 a, .int .i64 n] hNone (fun v _ => ∃ i : Int, v = .int .i64 i ∧ 0 ≤ i ∧ i < n) := by
  refine Spec.of_code' 0 14 [.tmp 4] Tryz.func22 rfl rfl rfl rfl fun X => ?_
  refine AW.seq_k fun K hK => AW.region (by kernel_rfl) ?_
  simp -implicitDefEqProofs only [go_sem, seval, ↓reduceIte]
  refine hK _ ?_
  clear hK K
  refine AW.seq_k fun K1 hK1 => ?_
  refine AW.seq_k fun K hK => AW.region (by kernel_rfl) ?_
  simp -implicitDefEqProofs only [go_sem, seval, ↓reduceIte]
  refine hK _ ?_
  clear hK K
  have q1 : decide (n ≤ 0) = false := by rw [decide_eq_false_iff_not]; omega
  refine AW.condS (by simp -implicitDefEqProofs only [go_sem, seval, ↓reduceIte]; rfl) (fun h6 => ?_) (fun h6 => ?_)
  · rw [q1] at h6; cases h6
  refine AW.skip ?_
  simp -implicitDefEqProofs only [go_sem, seval, ↓reduceIte]
  refine hK1 _ ?_
  have hn0 : ¬ n = 0 := by omega
  have b1 : -n < a.tmod n := by
    have := Int.lt_tmod_of_pos a hn.1
    omega
  have b2 : a.tmod n < n := Int.tmod_lt_of_pos a hn.1
  have hw : IntKind.i64.wrap (a.tmod n + n) = a.tmod n + n := w64 (by omega) (by omega)
  refine AW.seq_k fun K hK => AW.region (by kernel_rfl) ?_
  simp -implicitDefEqProofs only [go_sem, seval, ↓reduceIte, hn0, hw]
  refine hK _ ?_
  clear hK K
  refine AW.ret ?_
  simp -implicitDefEqProofs only [go_sem, seval, ↓reduceIte]
  refine endK_some ?_
  have b3 : 0 ≤ a.tmod n + n := by omega
  exact ⟨_, rfl, Int.tmod_nonneg _ b3, Int.tmod_lt_of_pos _ hn.1⟩
end Go.Hs
end

section
namespace Go.Hs
open Go.Proofs
set_option maxRecDepth 10000
theorem shift_step {l : List XN} {b k : Nat} {n : XN} (h : l[k]? = some n) (hb : b ≤ k) : ((l.drop b).take (k + 1 - b)).map (shiftN b) = ((l.drop b).take (k - b)).map (shiftN b) ++ [shiftN b n] := by
  rw [show k + 1 - b = (k - b) + 1 by omega, List.take_add_one, List.getElem?_drop, show b + (k - b) = k by omega, h, List.map_append]; rfl
theorem X.first : ∀ z : X, (∀ b, (z.top b).a = -1) ∧ z.size = 1 ∨ ∃ a : X, Sub z a 0 ∧ a.size < z.size ∧ ∀ b, (z.top b).a = b + a.size - 1
  | .leaf .. => .inl ⟨fun _ => rfl, rfl⟩
  | .un op a => .inr ⟨a, .un (.refl a), by simp only [X.size]; omega, fun _ => rfl⟩
  | .bin op a c => .inr ⟨a, .bin1 (.refl a), by simp only [X.size]; omega, fun _ => rfl⟩
  | .ite a c d => .inr ⟨a, .ite1 (.refl a), by simp only [X.size]; omega, fun _ => rfl⟩
/- law09.TypesParts -/
theorem lTypesParts (G : Nat → V) (hE : GExp G) (s : Sl XN) (names : Sl (List UInt8)) (at0 : Int) (hat : InK .i64 at0) :
    Spec Tryz.prog G 4 [.agg [encSl .old 6 encXN s], encSl .old 1 V.str names, .int .i64 at0] hNone (fun v _ => v = .bool true) := by
  have hG := hE.ok
  refine Spec.of_code' 0 123 [.tmp 6] Tryz.func4 rfl rfl rfl rfl fun X0 => ?_
  refine AW.seq_k fun K hK => AW.region (by kernel_rfl) ?_
  simp -implicitDefEqProofs only [go_sem, seval, ↓reduceIte]
  intro g3
  refine hK _ ?_
  clear hK K
  refine AW.seqJ (fun (_ : Unit) => st [(1, encSl .old 1 V.str names), (2, .int .i64 at0), (3, .ptr 3 g3 0)] [(3, .cells .new g3 0 [encSl .old 6 encXN s])]) (fun _ => fewT s.l names.l = true ∧ s.l.length ≠ 0) (fun K1 hK1 => ?_) ?_
  · refine AW.seq_k fun K hK => AW.region (by kernel_rfl) ?_
    simp -implicitDefEqProofs only [go_sem, seval, ↓reduceIte]
    refine CallA.pure hG (by kernel_rfl) ?_
    simp -implicitDefEqProofs only [go_sem, seval, ↓reduceIte, recol_xns]
    refine (wFew_spec G hG _ _ s names).mono ?_
    rintro _ _ rfl
    simp -implicitDefEqProofs only [go_sem, seval, ↓reduceIte]
    cases hf : fewT s.l names.l with
    | false =>
      simp -implicitDefEqProofs only [go_sem, seval, ↓reduceIte]
      refine hK _ ?_
      clear hK K
      refine AW.condS (by simp -implicitDefEqProofs only [go_sem, seval, ↓reduceIte]; rfl) (fun h27 => ?_) (fun h27 => ?_)
      · refine AW.seq_k fun K hK => AW.region (by kernel_rfl) ?_
        simp -implicitDefEqProofs only [go_sem, seval, ↓reduceIte]
        refine CallA.pure hG (by kernel_rfl) ?_
        simp -implicitDefEqProofs only [go_sem, seval, ↓reduceIte, List.map_nil]
        refine (wWorks_spec G hE).mono ?_
        rintro _ _ rfl
        simp -implicitDefEqProofs only [go_sem, seval, ↓reduceIte]
        refine hK _ ?_
        clear hK K
        refine AW.ret ?_
        simp -implicitDefEqProofs only [go_sem, seval, ↓reduceIte]
        refine endK_some ?_
        rfl
      · cases h27
    | true =>
    by_cases hz : s.l.length = 0
    · have q1 : (((s.l.length : Nat) : Int) == 0) = true := by simp [hz]
      simp -implicitDefEqProofs only [go_sem, seval, ↓reduceIte, q1]
      refine hK _ ?_
      clear hK K
      refine AW.condS (by simp -implicitDefEqProofs only [go_sem, seval, ↓reduceIte]; rfl) (fun h27 => ?_) (fun h27 => ?_)
      · refine AW.seq_k fun K hK => AW.region (by kernel_rfl) ?_
        simp -implicitDefEqProofs only [go_sem, seval, ↓reduceIte]
        refine CallA.pure hG (by kernel_rfl) ?_
        simp -implicitDefEqProofs only [go_sem, seval, ↓reduceIte, List.map_nil]
        refine (wWorks_spec G hE).mono ?_
        rintro _ _ rfl
        simp -implicitDefEqProofs only [go_sem, seval, ↓reduceIte]
        refine hK _ ?_
        clear hK K
        refine AW.ret ?_
        simp -implicitDefEqProofs only [go_sem, seval, ↓reduceIte]
        refine endK_some ?_
        rfl
      · cases h27
    · have q1 : (((s.l.length : Nat) : Int) == 0) = false := by rw [beq_eq_false_iff_ne]; omega
      simp -implicitDefEqProofs only [go_sem, seval, ↓reduceIte, q1]
      refine hK _ ?_
      clear hK K
      refine AW.condS (by simp -implicitDefEqProofs only [go_sem, seval, ↓reduceIte]; rfl) (fun h27 => ?_) (fun h27 => ?_)
      · cases h27
      refine AW.skip ?_
      simp -implicitDefEqProofs only [go_sem, seval, ↓reduceIte]
      exact hK1 _ () ⟨hf, hz⟩ (Weak.st (by simp -implicitDefEqProofs only [go_sem, seval, ↓reduceIte]; try rfl) (by simp -implicitDefEqProofs only [go_sem, seval, ↓reduceIte]; try rfl))
  rintro _ ⟨hf, hz⟩
  obtain ⟨hl1, hl2, hl3, hl4⟩ := fewT_true hf
  have hs : s.l.length < 1000000 := by omega
  have hnm : ∀ n ∈ s.l, n.name.length < 100000 := fun n hn => by have := hl4 n hn; omega
  have hnl : names.l.length < 1000000 := by omega
  have hT := fun c c1 => tKinds_spec G hE c c1 s names hs hnm hnl
  have hbad := kindsP_bad (names := names.l) (l := s.l)
  have htree := kindsP_tree (names := names.l) (l := s.l)
  have hlen := kindsP_len (names := names.l) (l := s.l)
  generalize kindsP names.l s.l = p at hT hbad htree hlen
  obtain ⟨W, wi, we⟩ := p
  simp only at hbad htree hlen
  refine AW.seq_k fun K hK => AW.region (by kernel_rfl) ?_
  simp -implicitDefEqProofs only [go_sem, seval, ↓reduceIte]
  refine CallA.pure hG (by kernel_rfl) ?_
  simp -implicitDefEqProofs only [go_sem, seval, ↓reduceIte, recol_xns]
  refine (hT _ _).mono ?_
  rintro _ _ rfl
  simp -implicitDefEqProofs only [go_sem, seval, ↓reduceIte, encKr, encKs, recol_ks]
  refine hK _ ?_
  clear hK K
  refine AW.seq_k fun K2 hK2 => ?_
  refine AW.seq_k fun K hK => AW.region (by kernel_rfl) ?_
  simp -implicitDefEqProofs only [go_sem, seval, ↓reduceIte]
  refine hK _ ?_
  clear hK K
  by_cases he : we = 0
  rotate_left
  · have q1 : (we != 0) = true := by simpa using he
    have hw0 := hbad he
    subst hw0
    refine AW.condS (by simp -implicitDefEqProofs only [go_sem, seval, ↓reduceIte]; rfl) (fun h37 => ?_) (fun h37 => ?_)
    · have q2 : ((((grownS ([] : List Int)).l.length : Nat) : Int) == 0) = true := rfl
      refine AW.seq_k fun K hK => AW.region (by kernel_rfl) ?_
      simp -implicitDefEqProofs only [go_sem, seval, ↓reduceIte, q2]
      refine CallA.pure hG (by kernel_rfl) ?_
      simp -implicitDefEqProofs only [go_sem, seval, ↓reduceIte, List.map_nil]
      refine (wWorks_spec G hE).mono ?_
      rintro _ _ rfl
      simp -implicitDefEqProofs only [go_sem, seval, ↓reduceIte]
      refine hK _ ?_
      clear hK K
      refine AW.ret ?_
      simp -implicitDefEqProofs only [go_sem, seval, ↓reduceIte]
      refine endK_some ?_
      rfl
    · rw [q1] at h37; cases h37
  subst he
  refine AW.condS (by simp -implicitDefEqProofs only [go_sem, seval, ↓reduceIte]; rfl) (fun h37 => ?_) (fun h37 => ?_)
  · cases h37
  refine AW.skip ?_
  simp -implicitDefEqProofs only [go_sem, seval, ↓reduceIte]
  refine hK2 _ ?_
  obtain ⟨x, hx, hl, hc, hk, hW⟩ := htree rfl
  obtain ⟨hln, hlp⟩ := hlen rfl
  have hWW : W = (subs x).map (kindX names.l) := congrArg Prod.fst hW
  refine AW.seq_k fun K3 hK3 => ?_
  have q2 : (((W.length : Nat) : Int) != ((s.l.length : Nat) : Int)) = false := by rw [hln]; simp
  refine AW.seq_k fun K hK => AW.region (by kernel_rfl) ?_
  simp -implicitDefEqProofs only [go_sem, seval, ↓reduceIte, q2]
  refine hK _ ?_
  clear hK K
  refine AW.condS (by simp -implicitDefEqProofs only [go_sem, seval, ↓reduceIte]; rfl) (fun h49 => ?_) (fun h49 => ?_)
  · cases h49
  refine AW.skip ?_
  simp -implicitDefEqProofs only [go_sem, seval, ↓reduceIte]
  refine hK3 _ ?_
  refine AW.seq_k fun K hK => AW.region (by kernel_rfl) ?_
  simp -implicitDefEqProofs only [go_sem, seval, ↓reduceIte]
  refine CallA.pure hG (by kernel_rfl) ?_
  simp -implicitDefEqProofs only [go_sem, seval, ↓reduceIte]
  refine (kPick_spec G hG at0 W.length hat ⟨by omega, by omega⟩).mono ?_
  rintro _ _ ⟨i, rfl, hi1, hi2⟩
  obtain ⟨i, rfl⟩ : ∃ m : Nat, i = m := ⟨i.toNat, by omega⟩
  simp -implicitDefEqProofs only [go_sem, seval, ↓reduceIte]
  refine hK _ ?_
  clear hK K
  have hi : i < x.size := by rw [hln, hl, X.row_len] at hi2; omega
  obtain ⟨y, b, h1, h2, h3, h4⟩ := sub_at x i hi
  have hWi : W[i]? = some (kindX names.l y) := by rw [hWW, List.getElem?_map, h3]; rfl
  have hpo := part_ok (names := names.l) hx hc hk h1
  have hsh := h1.shift
  rw [← hl] at hsh
  refine AW.seq_k fun K hK => AW.region (by kernel_rfl) ?_
  simp -implicitDefEqProofs only [go_sem, seval, ↓reduceIte]
  refine hK _ ?_
  clear hK K
  have hget : ∀ (z : X), Sub x z b → s.l[b + z.size - 1]? = some (z.top b) := fun z hz => by rw [hl]; exact hz.top
  refine AW.seqJ (fun (_ : Unit) => st [(1, encSl .old 1 V.str names), (3, .ptr 3 g3 0), (7, encSl .new 1 (V.int .u8) (grownS W)), (10, .int .i64 i), (11, .int .i64 b)] [(3, .cells .new g3 0 [encSl .old 6 encXN s])]) (fun _ => True) (fun K4 hK4 => ?_) ?_
  · refine AW.block ?_
    refine AW.while (fun (z : X) => st [(1, encSl .old 1 V.str names), (3, .ptr 3 g3 0), (7, encSl .new 1 (V.int .u8) (grownS W)), (10, .int .i64 i), (11, .int .i64 ((b + z.size - 1 : Nat) : Int))] [(3, .cells .new g3 0 [encSl .old 6 encXN s])])
      (fun z => Sub x z b) (fun z => z.size) y h1 (Weak.st (by simp -implicitDefEqProofs only [go_sem, seval, ↓reduceIte]; exact congrArg _ (by omega)) (by simp -implicitDefEqProofs only [go_sem, seval, ↓reduceIte]; try rfl)) ?_
    intro z hz L5 hL5
    have hgz := hget z hz
    have hzs := hz.size
    have hzp := z.size_pos
    have hlt : b + z.size - 1 < s.l.length := by rw [hl, X.row_len]; omega
    generalize hnt : z.top b = nt at hgz
    have hnta : (z.top b).a = nt.a := by rw [hnt]
    refine AW.seq_k fun K6 hK6 => ?_
    refine AW.seq_k fun K hK => AW.region (by kernel_rfl) ?_
    simp -implicitDefEqProofs only [go_sem, seval, ↓reduceIte, hgz, encXN_K, hlt]
    refine hK _ ?_
    clear hK K
    rcases z.first with ⟨ha, hz1⟩ | ⟨a, hsa, hlt2, ha⟩
    · have q3 : decide (nt.a ≥ 0) = false := by rw [← hnta, ha b]; decide
      refine AW.condS (by simp -implicitDefEqProofs only [go_sem, seval, ↓reduceIte]; rfl) (fun h61 => ?_) (fun h61 => ?_)
      · rw [q3] at h61; cases h61
      refine AW.exit ?_
      simp -implicitDefEqProofs only [go_sem, seval, ↓reduceIte]
      exact hK4 _ () trivial (Weak.st (by simp -implicitDefEqProofs only [go_sem, seval, ↓reduceIte]; exact congrArg _ (by omega)) (by simp -implicitDefEqProofs only [go_sem, seval, ↓reduceIte]; try rfl))
    · have hap := a.size_pos
      have hna : nt.a = (b : Int) + a.size - 1 := by rw [← hnta, ha b]
      have q3 : decide (nt.a ≥ 0) = true := by rw [decide_eq_true_iff]; omega
      refine AW.condS (by simp -implicitDefEqProofs only [go_sem, seval, ↓reduceIte]; rfl) (fun h61 => ?_) (fun h61 => ?_)
      rotate_left
      · rw [q3] at h61; cases h61
      refine AW.skip ?_
      simp -implicitDefEqProofs only [go_sem, seval, ↓reduceIte]
      refine hK6 _ ?_
      refine AW.block ?_
      refine AW.region (by kernel_rfl) ?_
      simp -implicitDefEqProofs only [go_sem, seval, ↓reduceIte, hgz, encXN_K, hlt]
      have hsb := hz.trans hsa
      rw [Nat.add_zero] at hsb
      exact hL5 _ ⟨a, hlt2, hsb, Weak.st (by simp -implicitDefEqProofs only [go_sem, seval, ↓reduceIte]; exact congrArg _ (by omega)) (by simp -implicitDefEqProofs only [go_sem, seval, ↓reduceIte]; try rfl)⟩
  intro _ _
  have hbi : b ≤ i := by have := y.size_pos; omega
  have hil : i < s.l.length := by rw [hl, X.row_len]; exact hi
  refine AW.seq_k fun K hK => AW.region (by kernel_rfl) ?_
  simp -implicitDefEqProofs only [go_sem, seval, ↓reduceIte]
  intro g12
  refine hK _ ?_
  clear hK K
  refine AW.seq_k fun K7 hK7 => ?_
  refine AW.seq_k fun K hK => AW.region (by kernel_rfl) ?_
  simp -implicitDefEqProofs only [go_sem, seval, ↓reduceIte]
  refine hK _ ?_
  clear hK K
  refine AW.block ?_
  refine AW.for (i + 1) (fun k (gx : Nat) => st [(1, encSl .old 1 V.str names), (3, .ptr 3 g3 0), (7, encSl .new 1 (V.int .u8) (grownS W)), (10, .int .i64 i), (11, .int .i64 b), (12, .ptr 12 g12 0), (13, .int .i64 k)]
      [(3, .cells .new g3 0 [encSl .old 6 encXN s]), (12, .cells .new g12 0 [grown 101 gx 6 (((s.l.drop b).take (k - b)).map (shiftN b))]), (101, grownO gx encXN (((s.l.drop b).take (k - b)).map (shiftN b)))])
    (fun k _ => b ≤ k) b 0 (by omega) (Nat.le_refl _) (Weak.st (by simp -implicitDefEqProofs only [go_sem, seval, ↓reduceIte]; try rfl) (by rw [Nat.sub_self, List.take_zero]; simp -implicitDefEqProofs only [go_sem, seval, ↓reduceIte, List.map_nil, grown_nil, grownO_nil]; try exact ⟨rfl, rfl⟩)) ?_
  intro k gx hk hbk L8 hL8
  refine AW.seq_k fun K9 hK9 => ?_
  refine AW.seq_k fun K hK => AW.region (by kernel_rfl) ?_
  simp -implicitDefEqProofs only [go_sem, seval, ↓reduceIte]
  refine hK _ ?_
  clear hK K
  refine AW.condS (by simp -implicitDefEqProofs only [go_sem, seval, ↓reduceIte]; rfl) (fun h71 => ?_) (fun h71 => ?_)
  · have hk1 : k ≤ i := by have h71 : decide ((k : Int) ≤ (i : Int)) = true := h71; simp at h71; omega
    have hkl : k < s.l.length := by omega
    have hg := List.getElem?_eq_getElem hkl
    have hst := shift_step hg hbk
    generalize s.l[k] = n at hg hst
    have hnsl : (((s.l.drop b).take (k - b)).map (shiftN (b : Int))).length ≤ 60 := by rw [List.length_map, List.length_take, List.length_drop]; omega
    generalize ((s.l.drop b).take (k - b)).map (shiftN (b : Int)) = ns at hst hnsl ⊢
    refine AW.skip ?_
    simp -implicitDefEqProofs only [go_sem, seval, ↓reduceIte]
    refine hK9 _ ?_
    refine AW.seq_k fun K10 hK10 => ?_
    refine AW.block ?_
    refine AW.seq_k fun K hK => AW.region (by kernel_rfl) ?_
    simp -implicitDefEqProofs only [go_sem, seval, ↓reduceIte, hg, encXN_K]
    intro g14
    refine hK _ ?_
    clear hK K
    have hdep : depthP s.l ≠ 0 := by rw [hl, depth_row hx]; have := x.depth_pos; omega
    obtain ⟨_, pa1, pb1, pc1, pa0, pb0, pc0⟩ := plOk_get hdep hg
    have ra : -1 ≤ n.a ∧ n.a < 60 := by
      by_cases h : 0 < partsOf n.op
      · have := pa1 h; omega
      · rw [pa0 h]; decide
    have rb : -1 ≤ n.b ∧ n.b < 60 := by
      by_cases h : 1 < partsOf n.op
      · have := pb1 h; omega
      · rw [pb0 h]; decide
    have rc : -1 ≤ n.c ∧ n.c < 60 := by
      by_cases h : 2 < partsOf n.op
      · have := pc1 h; omega
      · rw [pc0 h]; decide
    have hwa : IntKind.i64.wrap (n.a - (b : Int)) = n.a - b := w64 (by omega) (by omega)
    have hwb : IntKind.i64.wrap (n.b - (b : Int)) = n.b - b := w64 (by omega) (by omega)
    have hwc : IntKind.i64.wrap (n.c - (b : Int)) = n.c - b := w64 (by omega) (by omega)
    have hma : ∀ z : Int, (if z > -1 then z else -1) = max (-1) z := fun z => by rw [Int.max_def]; split <;> split <;> omega
    refine AW.seq_k fun K hK => AW.region (by kernel_rfl) ?_
    simp -implicitDefEqProofs only [go_sem, seval, ↓reduceIte, hwa, hma]
    refine hK _ ?_
    clear hK K
    refine AW.seq_k fun K hK => AW.region (by kernel_rfl) ?_
    simp -implicitDefEqProofs only [go_sem, seval, ↓reduceIte, hwb, hma]
    refine hK _ ?_
    clear hK K
    refine AW.seq_k fun K hK => AW.region (by kernel_rfl) ?_
    simp -implicitDefEqProofs only [go_sem, seval, ↓reduceIte, hwc, hma]
    refine hK _ ?_
    clear hK K
    refine AW.region (by kernel_rfl) ?_
    simp -implicitDefEqProofs only [go_sem, seval, ↓reduceIte]
    intro g100
    refine app_grown (f := encXN) (l := ns) (l2 := [shiftN b n]) (g := gx) encXN_cells rfl rfl rfl (by simp -implicitDefEqProofs only [go_sem, seval, ↓reduceIte]; try rfl) (roomOk_of (by omega) (by simp; omega)) fun g2 => ?_
    simp -implicitDefEqProofs only [go_sem, seval, ↓reduceIte]
    refine hK10 _ ?_
    refine AW.region (by kernel_rfl) ?_
    simp -implicitDefEqProofs only [go_sem, seval, ↓reduceIte]
    refine hL8 _ ⟨by omega, g2, by show b ≤ k + 1; omega, Weak.st (by simp -implicitDefEqProofs only [go_sem, seval, ↓reduceIte]; exact congrArg _ (w64 (by omega) (by omega))) (by rw [hst]; simp -implicitDefEqProofs only [go_sem, seval, ↓reduceIte]; try rfl)⟩
  · have hk1 : k = i + 1 := by have h71 : decide ((k : Int) ≤ (i : Int)) = false := h71; simp at h71; omega
    refine AW.exit ?_
    simp -implicitDefEqProofs only [go_sem, seval, ↓reduceIte]
    refine hK7 _ ?_
    rw [hk1, show i + 1 - b = y.size by omega, hsh]
    refine AW.weak (Weak.stF (fun o => o == 101) (l := [(1, encSl .old 1 V.str names), (7, encSl .new 1 (V.int .u8) (grownS W)), (10, .int .i64 i), (12, .ptr 12 g12 0)]) (m := [(12, .cells .new g12 0 [encXs .new (y.row 0)])]) ?_ ?_) ?_
    · simp -implicitDefEqProofs only [go_sem, seval, ↓reduceIte]
      exact ⟨Fz.same _, Fz.same _, Fz.same _, Fz.same _⟩
    · simp only [allFzO_cons, allFzO_nil, and_true]
      exact FzO.of (c := .new) (fz := 0) (cs := [grown 101 gx 6 (y.row 0)]) rfl (by simp -implicitDefEqProofs only [go_sem, seval, ↓reduceIte]; try rfl) ⟨Fz.grown rfl (by simp -implicitDefEqProofs only [go_sem, seval, ↓reduceIte]; try rfl) encXN_cells, trivial⟩
    have hyn : ∀ n ∈ y.row 0, n.name.length < 100000 := by
      intro n hn
      rw [← hsh] at hn
      obtain ⟨n', hn', rfl⟩ := List.mem_map.1 hn
      exact hnm n' (List.mem_of_mem_drop (List.mem_of_mem_take hn'))
    have hyl : (y.row 0).length < 1000000 := by rw [X.row_len]; omega
    have ho := fun c c1 => tOf_spec G hE c c1 (grownS (y.row 0)) names (by rw [grownS_l]; exact hyl) (by rw [grownS_l]; exact hyn) hnl
    simp only [grownS_l, hpo] at ho
    refine AW.seq_k fun K hK => AW.region (by kernel_rfl) ?_
    simp -implicitDefEqProofs only [go_sem, seval, ↓reduceIte, encXs]
    refine CallA.pure hG (by kernel_rfl) ?_
    simp -implicitDefEqProofs only [go_sem, seval, ↓reduceIte, recol_xns]
    refine (ho _ _).mono ?_
    rintro _ _ rfl
    simp -implicitDefEqProofs only [go_sem, seval, ↓reduceIte, encO3]
    refine hK _ ?_
    clear hK K
    have q5 : (kindX names.l y == kindX names.l y) = true := by simp
    have hiW : i < W.length := (List.getElem?_eq_some_iff.1 hWi).1
    refine AW.seq_k fun K hK => AW.region (by kernel_rfl) ?_
    simp -implicitDefEqProofs only [go_sem, seval, ↓reduceIte, hWi, q5, hiW]
    refine CallA.pure hG (by kernel_rfl) ?_
    simp -implicitDefEqProofs only [go_sem, seval, ↓reduceIte, List.map_nil]
    refine (wWorks_spec G hE).mono ?_
    rintro _ _ rfl
    simp -implicitDefEqProofs only [go_sem, seval, ↓reduceIte]
    refine hK _ ?_
    clear hK K
    refine AW.ret ?_
    simp -implicitDefEqProofs only [go_sem, seval, ↓reduceIte]
    refine endK_some ?_
    rfl
end Go.Hs
end

section
namespace Go.Proofs.YtpoiceejhcpnaaaGreatDoor
open Go.RowKit Go.Hs
set_option maxRecDepth 100000
/-- What the statements of this seat list. -/
def laidAll : List (String × DataW Unit) := [("math/bits.deBruijn32tab", Rows.laid_math_bits_deBruijn32tab), ("math/bits.deBruijn64tab", Rows.laid_math_bits_deBruijn64tab), ("internal/strconv.uint64pow10", Rows.laid_internal_strconv_uint64pow10), ("unicode/utf8.acceptRanges", Rows.laid_unicode_utf8_acceptRanges), ("strconv.ErrRange", Rows.laid_strconv_ErrRange), ("strconv.ErrSyntax", Rows.laid_strconv_ErrSyntax), ("hopscotch/lex.signs", Rows.laid_hopscotch_lex_signs), ("unicode/utf8.first", Rows.laid_unicode_utf8_first)]
/-! ### A world that meets it -/
noncomputable def low : Nat := (World.holding Tryz.prog default ⟨#[], #[], []⟩).heap.size
def b32 : List Int := [0, 1, 28, 2, 29, 14, 24, 3, 30, 22, 20, 15, 25, 17, 4, 8, 31, 27, 13, 23, 21, 19, 16, 7, 26, 12, 18, 6, 11, 5, 10, 9]
def b64 : List Int := 0 :: 1 :: 56 :: 2 :: 57 :: 49 :: 28 :: 3 :: 61 :: 58 :: 42 :: 50 :: 38 :: 29 :: 17 :: 4 :: 62 :: 47 :: 59 :: 36 :: 45 :: 43 :: 51 :: 22 :: 53 :: 39 :: 33 :: 30 :: 24 :: 18 :: 12 :: 5 :: 63 :: 55 :: 48 :: 27 :: 60 :: 41 :: 37 :: 16 :: 46 :: 35 :: 44 :: 21 :: 52 :: 32 :: 23 :: 11 :: 54 :: 26 :: 40 :: 15 :: 34 :: 20 :: 31 :: 10 :: 25 :: 14 :: 19 :: 9 :: 13 :: 8 :: 7 :: 6 :: []
def acR : List Int := [128, 191, 160, 191, 128, 159, 144, 191, 128, 143] ++ List.replicate 22 0
def errR : ByteArray := { data := #[118, 97, 108, 117, 101, 32, 111, 117, 116, 32, 111, 102, 32, 114, 97, 110, 103, 101] }
def errS : ByteArray := { data := #[105, 110, 118, 97, 108, 105, 100, 32, 115, 121, 110, 116, 97, 120] }
def withCells (cs : Array Value) : Obj → Obj
  | .cells _ t frozen => .cells cs t frozen
  | o => o
noncomputable def laidWorld (os : Os) : World :=
  let w0 := World.holding Tryz.prog os ⟨#[.cells #[.string errR] 240, .cells #[.string errS] 240], #[], []⟩
  { w0 with heap := (((((((w0.heap.modify 1 (withCells #[.iface 238 (.pointer (some ⟨low, 0, none⟩))])).modify 6 (withCells #[.iface 238 (.pointer (some ⟨low + 1, 0, none⟩))])).modify 3
      (withCells (Lib.pow10Tab.map (Value.int .u64)).toArray)).modify 7 (withCells (b32.map (Value.int .u8)).toArray)).modify 8 (withCells (b64.map (Value.int .u8)).toArray)).modify 5 (withCells (acR.map (Value.int .u8)).toArray)).modify
      0 (withCells (signsL.map fun s => Value.string ⟨s.toArray⟩).toArray)).modify 4 (withCells (Pinned.utf8FirstZ.map fun (n : Nat) => Value.int .u8 (n : Int)).toArray) }
theorem laidWorld_met (os : Os) (args : Array Value) : laidMet Tryz.prog laidAll ((laidWorld os).forCall (fun _ _ => 0) ⟨#[], args, []⟩).memory :=
  laidMet_of_run' 8 (by kernel_rfl) (by kernel_rfl)
end Go.Proofs.YtpoiceejhcpnaaaGreatDoor
end

section
namespace Go.Proofs.YtpoiceejhcpnaaaGreatDoor
open Go.RowKit Go.Hs
set_option maxRecDepth 100000
theorem laidMet_tail {P : Program} {W : World} {x : String × DataW Unit} {r : List (String × DataW Unit)} (h : laidMet P (x :: r) W) : laidMet P r W := by
  obtain ⟨n, d⟩ := x
  obtain ⟨ps, ⟨g0, t0, cs0, f0, p0, q0, hg0, ht0, hv0, hd0, hq, e0⟩, hnd, hrows⟩ := h
  subst e0
  exact ⟨q0, hq, (List.nodup_append.1 hnd).2.1, fun b off hm => hrows b off (List.mem_append.2 (.inr hm))⟩
/-- What is known of the package-level variables. -/
noncomputable def gE (m : Int) : Nat → V := fun g => if g = 1 then .view .old (.iface 238 (.view .old (.agg []))) else if g = 3 then .view .old (.agg (Lib.pow10Tab.map (V.int .u64)))
  else if g = 0 then .view .old (.agg (signsL.map V.str)) else if g = 2 then .view .old (.int .i64 m) else .top
theorem recolL_ints (f : Col → Col) : ∀ l : List Int, V.recolL f (l.map (V.int .u64)) = l.map (V.int .u64)
  | [] => rfl
  | x :: r => by simp only [List.map_cons, V.recolL]; rw [recolL_ints f r]; rfl
theorem recolL_strs (f : Col → Col) : ∀ l : List (List UInt8), V.recolL f (l.map V.str) = l.map V.str
  | [] => rfl
  | x :: r => by simp only [List.map_cons, V.recolL]; rw [recolL_strs f r]; rfl
theorem gE_ok (m : Int) : GExp (gE m) where
  ok := fun g => by
    unfold gE
    split
    · exact ⟨rfl, .view _ _ fun x hx => by simp [V.cells] at hx; subst hx; exact .iface _ _ (.view _ _ fun x hx => by simp [V.cells] at hx)⟩
    · split
      · refine ⟨by simp only [V.recol, Col.ent, recolL_ints], .view _ _ fun x hx => ?_⟩
        obtain ⟨n, _, rfl⟩ := List.mem_map.1 hx
        exact .int _ _
      · split
        · refine ⟨by simp only [V.recol, Col.ent, recolL_strs], .view _ _ fun x hx => ?_⟩
          obtain ⟨n, _, rfl⟩ := List.mem_map.1 hx
          exact .str _
        · split
          · exact ⟨rfl, .view _ _ fun x hx => by simp [V.cells] at hx; subst hx; exact .int _ _⟩
          · exact ⟨rfl, .top⟩
  er := ⟨_, _, _, rfl⟩
  tab := ⟨_, rfl⟩
  sg := ⟨_, rfl⟩
  ml := ⟨_, m, rfl⟩
theorem gE_old (m : Int) (g : Nat) : (gE m g).Old := by
  unfold gE
  split
  · exact .view _ fun x hx => by simp [V.cells] at hx; subst hx; exact .iface _ _ (.view _ fun x hx => by simp [V.cells] at hx)
  · split
    · refine .view _ fun x hx => ?_
      obtain ⟨n, _, rfl⟩ := List.mem_map.1 hx
      exact .int _ _
    · split
      · refine .view _ fun x hx => ?_
        obtain ⟨n, _, rfl⟩ := List.mem_map.1 hx
        exact .str _
      · split
        · exact .view _ fun x hx => by simp [V.cells] at hx; subst hx; exact .int _ _
        · exact .top
theorem gER : Tryz.prog.globalNamed "strconv.ErrRange" = some 1 := by kernel_rfl
theorem gERType : (Tryz.prog.globals[1]?).map (·.type) = some 136 := by kernel_rfl
theorem cells111 : Tryz.prog.cellsOf 240 = 1 := by kernel_rfl
theorem cells9 : Tryz.prog.cellsOf 9 = 1 := by kernel_rfl
theorem star : "*" ++ "errors.errorString" = "*errors.errorString" := by decide
theorem row109 (u : TypeId) (h : Tryz.prog.typeName? 3 u = some "*errors.errorString") : u = 238 :=
  typeName_ptr_named (nm := "errors.errorString") (by rw [star]; kernel_rfl) (by kernel_rfl) (by decide) u (by rw [star]; exact h)
theorem gTab : Tryz.prog.globalNamed "internal/strconv.uint64pow10" = some 3 := by kernel_rfl
theorem gTabType : ∃ t n, (Tryz.prog.globals[3]?).map (·.type) = some t ∧ Tryz.prog.underlying t = some (.array n 182) ∧ Tryz.prog.cellsOf t = n ∧ n = 20 := by
  refine ⟨(((Tryz.prog.globals[3]?).map (·.type)).getD 0), 20, by kernel_rfl, by kernel_rfl, by kernel_rfl, rfl⟩
theorem laid_tab {W : World} (h : laidMet Tryz.prog laidAll W) : Lib.TabIs Tryz.prog W "internal/strconv.uint64pow10" .u64 Lib.pow10Tab := by
  obtain ⟨t, n, h1, h2, h3, rfl⟩ := gTabType
  have e : (Rows.laid_internal_strconv_uint64pow10 : DataW Unit) = Lib.tabData .u64 Lib.pow10Tab := by rfl
  have h4 := laidMet_tail (laidMet_tail h)
  rw [e] at h4
  exact Lib.tabIs_of_head gTab h1 h2 Tryz.underlying182 (by kernel_rfl) h3 h4
theorem laid_err {W : World} (h : laidMet Tryz.prog laidAll W) : ∃ b off, W.cell? ⟨1, 0, none⟩ = some (.iface 238 (.pointer (some ⟨b, off, none⟩))) := by
  obtain ⟨a, s, h1, h2, _, _⟩ := laid_sentinel (laidMet_tail (laidMet_tail (laidMet_tail (laidMet_tail h)))) gER gERType Tryz.underlying136 row109 Tryz.underlying238 Tryz.underlying240 rfl rfl Tryz.underlying9 cells111 cells9
  have h0 := World.var?_cell gER h1 0
  have hs := World.cell?_spot h2
  obtain ⟨b, off, sp⟩ := a
  have hs : sp = none := hs
  subst hs
  exact ⟨b, off, by simpa using h0⟩
/-! ### A table of texts -/
def strData {H : Type} (zs : List (List UInt8)) : DataW H := .agg (zs.map fun z => .lit (.string z))
theorem cells_of_strs {H : Type} {enc : TypeId × Value → H} {P : Program} {w : World} {base : Nat} {sp : Nat → Bool} {held : Bool} {fuel : Nat} {t e : TypeId} {n : Nat} {cs : List Value} {zs : List (List UInt8)} {p : List MemPlace}
    (ht : P.underlying t = some (.array n e)) (he : P.underlying e = some .string) (hce : P.cellsOf e = 1) (hct : P.cellsOf t = n)
    (h : DataW.trod enc P w base sp held fuel t cs = some (strData zs, p)) : cs.length = zs.length ∧ ∀ i (hi : i < zs.length), ∃ s : ByteArray, cs[i]? = some (.string s) ∧ s.data.toList = zs[i] := by
  cases fuel with
  | zero => simp [DataW.trod] at h
  | succ fuel =>
    simp only [DataW.trod, ht, hce, hct, Nat.mul_one] at h
    split at h
    · rename_i hl
      obtain ⟨xs, hm, hx⟩ := Option.map_eq_some_iff.1 h
      have hxs : xs.map (·.1) = zs.map fun z => (DataW.lit (.string z) : DataW H) := by
        have := congrArg Prod.fst hx
        simpa [strData] using this
      have hxl : xs.length = n := by simpa using Lib.mapM_length hm
      have hzl : zs.length = n := by
        have := congrArg List.length hxs
        simp at this
        omega
      refine ⟨by omega, fun i hi => ?_⟩
      have hin : i < n := by omega
      obtain ⟨b, hb, hf⟩ := Lib.mapM_at hm i i (by simp [hin])
      obtain ⟨z, hc, rfl, _⟩ := DataW.trod_string he hf
      have h1 : cs[i]? = some (.string z) := by
        have := congrArg (·[0]?) hc
        simpa [List.getElem?_take, List.getElem?_drop] using this
      have h2 : (xs.map (·.1))[i]? = some (DataW.lit (.string z.data.toList) : DataW H) := by simp [hb]
      rw [hxs, List.getElem?_map, List.getElem?_eq_getElem hi] at h2
      refine ⟨z, h1, ?_⟩
      have h3 : (DataW.lit (.string zs[i]) : DataW H) = .lit (.string z.data.toList) := Option.some.inj h2
      injection h3 with h3
      injection h3 with h3
      exact h3.symm
    · cases h
theorem gSg : Tryz.prog.globalNamed "hopscotch/lex.signs" = some 0 := by kernel_rfl
theorem gSgType : (Tryz.prog.globals[0]?).map (·.type) = some 148 := by kernel_rfl
theorem laid_signs {W : World} (h : laidMet Tryz.prog laidAll W) : ∃ cs : Array Value, W.var? Tryz.prog "hopscotch/lex.signs" = some cs ∧ cs.size = 14 ∧ ∀ i (hi : i < signsL.length), ∃ s : ByteArray, cs[i]? = some (.string s) ∧ s.data.toList = signsL[i] := by
  have e : (Rows.laid_hopscotch_lex_signs : DataW Unit) = strData signsL := by rfl
  have h4 := laidMet_tail (laidMet_tail (laidMet_tail (laidMet_tail (laidMet_tail (laidMet_tail h)))))
  rw [e] at h4
  obtain ⟨ps, ⟨g', t', cs, fuel, p, q, hg', ht', hvar, hd, _, _⟩, _⟩ := h4
  obtain rfl := Option.some.inj (gSg.symm.trans hg')
  obtain rfl := Option.some.inj (gSgType.symm.trans ht')
  obtain ⟨h1, h2⟩ := cells_of_strs Tryz.underlying148 Tryz.underlying9 cells9 (by kernel_rfl) hd
  refine ⟨_, hvar, (by simpa using h1 : cs.size = signsL.length).trans rfl, fun i hi => ?_⟩
  obtain ⟨s, h3, h4⟩ := h2 i hi
  exact ⟨s, by simpa using h3, h4⟩
/-- What is not laid is a number all the same. -/
theorem maxlen_of {W : World} (h : W.ShapedOpen Tryz.prog) : ∃ m, W.cell? ⟨2, 0, none⟩ = some (.int .i64 m) := by
  obtain ⟨cs, hh, hs, hr⟩ := h.1 2 #[.int .i64 0] 3 (of_decide_eq_true (by kernel_rfl)) (by kernel_rfl)
  obtain ⟨ts, hts, _, hall⟩ := hr (by kernel_rfl)
  rw [show Tryz.prog.cellTypes Tryz.prog.depth 3 = some [3] by kernel_rfl] at hts
  cases hts
  have h1 : 0 < cs.size := by rw [hs]; decide
  obtain ⟨u, hu', hok⟩ := hall 0 cs[0] (by simp [h1])
  have : u = 3 := by simpa using hu'.symm
  subst this
  have hcell : W.cell? ⟨2, 0, none⟩ = some cs[0] := by simp [World.cell?, hh, h1]
  rw [hcell]
  unfold Cell.ok at hok
  rw [Tryz.underlying3] at hok
  cases hv : cs[0] <;> rw [hv] at hok <;> first | (obtain ⟨rfl, _⟩ := hok; exact ⟨_, rfl⟩) | simp at hok
/-- **From the statement's condition to what the contracts ask.** -/
theorem laid_G {W : World} (h : laidMet Tryz.prog laidAll W) (hS : W.ShapedOpen Tryz.prog) : ∃ m, ∀ g, RelG (Cx.ofW W) g (gE m g) := by
  obtain ⟨m, hml⟩ := maxlen_of hS
  refine ⟨m, fun g => ?_⟩
  unfold gE
  split
  · rename_i hg
    subst hg
    obtain ⟨b, off, h1⟩ := laid_err h
    refine ⟨?_, trivial⟩
    refine .view .old _ 1 0 (fun _ => .iface 238 (.pointer (some ⟨b, off, none⟩))) (fun i hi => ?_) (fun i hi => ?_)
    · have : i = 0 := by simpa [V.cells] using hi
      subst this
      refine ⟨by show (W.cell? _).isSome = true; rw [h1]; rfl, World.block_lt_of_cell? _ _ h1, h1, rfl⟩
    · have : i = 0 := by simpa [V.cells] using hi
      subst this
      exact .iface _ _ _ (.view .old _ b off (fun _ => .nilIface) (fun i hi => by simp [V.cells] at hi) (fun i hi => by simp [V.cells] at hi))
  · split
    · rename_i hg
      subst hg
      have ht := laid_tab h
      have hc : ∀ i (hi : i < Lib.pow10Tab.length), W.cell? ⟨3, i, none⟩ = some (.int .u64 (Lib.pow10Tab.getD i 0)) := fun i hi => ht.cell gTab i hi
      have hlen : Lib.pow10Tab.length = 20 := Lib.pow10Tab_length
      have hlt : 3 < W.heap.size := World.block_lt_of_cell? _ _ (hc 0 (by omega))
      have hv : W.var? Tryz.prog "internal/strconv.uint64pow10" = some (Lib.pow10Tab.map fun z => Value.int .u64 z).toArray := ht
      refine ⟨?_, ?_⟩
      · refine .view .old _ 3 0 (fun i => .int .u64 (Lib.pow10Tab.getD i 0)) (fun i hi => ?_) (fun i hi => ?_)
        · have hi : i < Lib.pow10Tab.length := by simpa [V.cells] using hi
          rw [Nat.zero_add]
          exact ⟨by show (W.cell? _).isSome = true; rw [hc i hi]; rfl, hlt, hc i hi, rfl⟩
        · have hi' : i < Lib.pow10Tab.length := by simpa [V.cells] using hi
          have key : ∀ v, v = V.int .u64 (Lib.pow10Tab.getD i 0) → Rel (Cx.ofW W) (Value.int .u64 (Lib.pow10Tab.getD i 0)) v := fun v e => by rw [e]; exact .int _ _
          exact key _ (by simp [V.cells, List.getD, hi'])
      · refine ⟨hlt, ?_⟩
        unfold World.var? at hv
        rw [gTab] at hv
        have hv : (match W.heap[3]? with | some (Obj.cells cs _ _) => some cs | _ => none) = some (Lib.pow10Tab.map fun z => Value.int .u64 z).toArray := hv
        split at hv
        · rename_i cs t fr hh
          cases hv
          exact ⟨_, t, fr, hh, by simp⟩
        · cases hv
    · split
      · rename_i hg
        subst hg
        obtain ⟨cs, hv, hsz, hcs⟩ := laid_signs h
        have h0 := fun i => World.var?_cell gSg hv i
        have hc : ∀ i (hi : i < signsL.length), ∃ s : ByteArray, W.cell? ⟨0, i, none⟩ = some (.string s) ∧ s.data.toList = signsL[i] := fun i hi => by
          obtain ⟨s, h1, h2⟩ := hcs i hi
          exact ⟨s, by rw [h0 i]; exact h1, h2⟩
        have hlt : 0 < W.heap.size := by
          obtain ⟨s, h1, _⟩ := hc 0 (by decide)
          exact World.block_lt_of_cell? _ _ h1
        refine ⟨?_, ?_⟩
        · refine .view .old _ 0 0 (fun i => (cs[i]?).getD undef) (fun i hi => ?_) (fun i hi => ?_)
          · have hi : i < signsL.length := by simpa [V.cells] using hi
            obtain ⟨s, h1, _⟩ := hcs i hi
            rw [Nat.zero_add, h1]
            have h2 : W.cell? ⟨0, i, none⟩ = some (.string s) := by rw [h0 i]; exact h1
            exact ⟨by show (W.cell? _).isSome = true; rw [h2]; rfl, hlt, h2, rfl⟩
          · have hi' : i < signsL.length := by simpa [V.cells] using hi
            obtain ⟨s, h1, h2⟩ := hcs i hi'
            rw [h1]
            have key : ∀ v, v = V.str signsL[i] → Rel (Cx.ofW W) (Value.string s) v := fun v e => by rw [e]; exact .str _ _ h2
            exact key _ (by simp [V.cells])
        · refine ⟨hlt, ?_⟩
          unfold World.var? at hv
          rw [gSg] at hv
          have hv : (match W.heap[0]? with | some (Obj.cells cs _ _) => some cs | _ => none) = some cs := hv
          split at hv
          · rename_i cs' t fr hh
            cases hv
            exact ⟨_, t, fr, hh, by rw [hsz]; rfl⟩
          · cases hv
      · split
        · rename_i hg
          subst hg
          refine ⟨?_, trivial⟩
          refine .view .old _ 2 0 (fun _ => .int .i64 m) (fun i hi => ?_) (fun i hi => ?_)
          · have : i = 0 := by simpa [V.cells] using hi
            subst this
            refine ⟨by show (W.cell? _).isSome = true; rw [hml]; rfl, World.block_lt_of_cell? _ _ hml, hml, rfl⟩
          · have : i = 0 := by simpa [V.cells] using hi
            subst this
            exact .int _ _
        · exact ⟨.top _, trivial⟩
end Go.Proofs.YtpoiceejhcpnaaaGreatDoor
end

section
namespace Go.Proofs.YtpoiceejhcpnaaaGreatDoor
open Go.RowKit Go.Hs Go.ChangeShapes Go.WideShapes Go.ChangeAt
open Go.ChangeMaps (open_string shut_string)
set_option maxRecDepth 100000
theorem reads_str (W : World) : Reads Tryz.prog W 9 1 (fun s : List UInt8 => [V.str s]) := by
  refine ⟨by kernel_rfl, fun _ => rfl, fun enc held fuel cs x h => ?_⟩
  obtain ⟨s, rfl, _, _⟩ := DataW.trod_string Tryz.underlying9 h
  exact ⟨s.data.toList, RelC.cons rfl (.str _ _ rfl) RelC.nil⟩
theorem reads_strs (W : World) : Reads Tryz.prog W 25 1 (fun s : Sl (List UInt8) => [encSl .any 1 V.str s]) :=
  Reads.slice Tryz.underlying25 (by kernel_rfl) (by decide) (reads_str W)
theorem reads_xn (W : World) : Reads Tryz.prog W 41 6 (fun n : XN => (encXN n).cells) := by
  refine ⟨by kernel_rfl, fun _ => rfl, fun enc held fuel cs x h => ?_⟩
  obtain ⟨xs, n, _, _, hl, hlen, hf⟩ := DataW.trod_struct Tryz.underlying41 h
  have e43 : Tryz.prog.cellsOf 41 = 6 := by kernel_rfl
  rw [e43] at hl
  have hx : xs.length = 6 := hlen
  obtain ⟨op, h0⟩ := Reads.field (Reads.int (W := W) Tryz.underlying5 (by kernel_rfl)) (i := 0) (hf 0 _ rfl) (by omega)
  obtain ⟨num, h1⟩ := Reads.field (Reads.int (W := W) Tryz.underlying2 (by kernel_rfl)) (i := 1) (hf 1 _ rfl) (by omega)
  obtain ⟨name, h2⟩ := Reads.field (reads_str W) (i := 2) (hf 2 _ rfl) (by omega)
  obtain ⟨a, h3⟩ := Reads.field (Reads.int (W := W) Tryz.underlying3 (by kernel_rfl)) (i := 3) (hf 3 _ rfl) (by omega)
  obtain ⟨b, h4⟩ := Reads.field (Reads.int (W := W) Tryz.underlying3 (by kernel_rfl)) (i := 4) (hf 4 _ rfl) (by omega)
  obtain ⟨c, h5⟩ := Reads.field (Reads.int (W := W) Tryz.underlying3 (by kernel_rfl)) (i := 5) (hf 5 _ rfl) (by omega)
  match cs, hl with
  | [c0, c1, c2, c3, c4, c5], _ => exact ⟨⟨op, num, name, a, b, c⟩, h0.append (h1.append (h2.append (h3.append (h4.append h5))))⟩
theorem reads_xns (W : World) : Reads Tryz.prog W 22 1 (fun s : Sl XN => [encSl .any 6 encXN s]) :=
  Reads.slice Tryz.underlying22 (by kernel_rfl) (by decide) (reads_xn W)
theorem reads_expr (W : World) : Reads Tryz.prog W 24 1 (fun s : Sl XN => (V.agg [encSl .any 6 encXN s]).cells) := by
  refine ⟨by kernel_rfl, fun _ => rfl, fun enc held fuel cs x h => ?_⟩
  obtain ⟨xs, n, _, _, hl, hlen, hf⟩ := DataW.trod_struct Tryz.underlying24 h
  have e24 : Tryz.prog.cellsOf 24 = 1 := by kernel_rfl
  rw [e24] at hl
  have hx : xs.length = 1 := hlen
  obtain ⟨s, h0⟩ := Reads.field (reads_xns W) (i := 0) (hf 0 _ rfl) (by omega)
  match cs, hl with
  | [c0], _ => exact ⟨s, h0⟩
theorem inK_of_wf {k : IntKind} {n : Int} (h : (Lit.int k n).wf = true) : InK k n := by
  simpa [Lit.wf, InK] using h
variable {W : World} {H : Type} {enc : TypeId × Value → H} {b0 : Nat} {v : Value} {d : DataW H} {ps : List MemPlace}
theorem argI (hv : Value.okWide Tryz.prog W .any b0 3 v) (h : DataW.Trod enc Tryz.prog W 0 (fun _ => true) true 3 v d ps) : ∃ x : Int, InK .i64 x ∧ Rel (Cx.ofW W) v (.int .i64 x) := by
  obtain ⟨n, rfl, _, _, hw⟩ := open_int Tryz.underlying3 hv h
  exact ⟨n, inK_of_wf hw, .int _ _⟩
theorem argS (hv : Value.okWide Tryz.prog W .any b0 9 v) (h : DataW.Trod enc Tryz.prog W 0 (fun _ => true) true 9 v d ps) : ∃ x : List UInt8, Rel (Cx.ofW W) v (.str x) := by
  obtain ⟨s, rfl, _, _, _⟩ := open_string Tryz.underlying9 hv h
  exact ⟨_, .str s _ rfl⟩
theorem argL (hv : Value.okWide Tryz.prog W .any b0 25 v) (h : DataW.Trod enc Tryz.prog W 0 (fun _ => true) true 25 v d ps) : ∃ x : Sl (List UInt8), Rel (Cx.ofW W) v (encSl .old 1 V.str x) := by
  obtain ⟨fuel, h⟩ := h
  obtain ⟨x, hx⟩ := (reads_strs W).2.2 enc true fuel _ _ h
  have key : Rel (Cx.ofW W) v (encSl .any 1 V.str x) := by
    unfold Value.okWide at hv
    rw [Tryz.underlying25] at hv
    have hc : v.cells = #[v] := by
      unfold Cell.okWide Cell.ok at hv
      rw [Tryz.underlying25] at hv
      cases v <;> first | rfl | (simp at hv)
    rw [hc] at hx
    exact hx.rel 0 (by simp) (by simp)
  have h2 := key.ofW_old
  refine ⟨x, ?_⟩
  simpa only [go_sem, List.map_cons, List.map_nil] using h2
theorem argX (hv : Value.okWide Tryz.prog W .any b0 24 v) (h : DataW.Trod enc Tryz.prog W 0 (fun _ => true) true 24 v d ps) : ∃ x : Sl XN, Rel (Cx.ofW W) v (.agg [encSl .old 6 encXN x]) := by
  obtain ⟨fuel, h⟩ := h
  obtain ⟨x, hx⟩ := (reads_expr W).2.2 enc true fuel _ _ h
  have key : Rel (Cx.ofW W) v (.agg [encSl .any 6 encXN x]) := by
    unfold Value.okWide at hv
    rw [Tryz.underlying24] at hv
    obtain ⟨cs, rfl, _, _⟩ := hv
    have hx' : RelC (Cx.ofW W) (Value.agg cs).cells.toList [encSl .any 6 encXN x] := hx
    exact Rel.of_aggC hx'
  have h2 := key.ofW_old
  refine ⟨x, ?_⟩
  simpa only [go_sem, recol_xns, List.map_cons, List.map_nil] using h2
theorem own : ownKnob Tryz.prog.godebug = none := by kernel_rfl
theorem laidOut : laidOutB Tryz.prog = true := by kernel_rfl
/-- As the kit's law, what is known of the start handed on. -/
theorem lift_shaped {a : Assume} {C : Checked} {os : Os} {f : FuncId} {fn : Func} {H : Type} {enc : TypeId × Value → H} {s : ChangeSpec} {conds : List PathCond} {apart fresh handsOn again : Bool} {X : World → Array Value → Prop}
    (hX : ∀ (w w' : World) (args : Array Value), w.heap = w'.heap → X w args → X w' args)
    (ownk : ownKnob C.prog.godebug = none) (started : os.Started) (noInit : C.prog.inits.idxOf? f = none) (hfn : C.prog.funcs[f]? = some fn)
    (witness : ∃ (w : World) (tape : Tape) (i : Input), w.os = os ∧ (w.forCall tape i).Shaped C.prog ∧ i.vars = [] ∧ Input.okWide C.prog (w.forCall tape i) .any w.heap.size f i ∧
      ((s.pre enc C.prog fn conds apart (w.forCall tape i).memory i.args ∧ X (w.forCall tape i).memory i.args) ∧ sizedMet enc C.prog fn (OpenSpec.ofChange s) apart (w.forCall tape i).memory i.args) ∧ a.holds C.prog (lone (Frame.enter C.prog f i.args .normal) [] (w.forCall tape i)))
    (contract : ∀ (W : World) (base : Nat) (args : Array Value) (ds gs : List (DataW H)) (before : List MemPlace), W.ShapedOpen C.prog →
      (∀ (j : Nat) t v, fn.params[j]? = some t → args[j]? = some v → Value.okWide C.prog W .any base t v) →
      DataW.Whole enc C.prog fn.params.toList s.vars apart W args.toList ds gs before → X W args →
      Calls C.prog f args W fun e W' => ∃ v, e = .returned v ∧ s.post enc C.prog fn apart fresh handsOn again W args v W') :
    ReturnsInHanded a C os f .any (fun w args => (s.pre enc C.prog fn conds apart w args ∧ X w args) ∧ sizedMet enc C.prog fn (OpenSpec.ofChange s) apart w args) (s.post enc C.prog fn apart fresh handsOn again) := by
  refine returnsInHanded_of_calls ownk started noInit witness ?_
  intro w tape i _ hsh _ hok hpre _
  obtain ⟨_, _, _, fn', hfn', _, _, _, _, hval⟩ := hok
  have e : fn' = fn := Option.some.inj (hfn'.symm.trans hfn)
  subst e
  obtain ⟨⟨⟨ds, gs, before, hw, _⟩, hx⟩, _⟩ := hpre
  have hw' := DataW.Whole.of_heap (w' := w.forCall tape i) (by rfl) hw
  refine (contract (w.forCall tape i) w.heap.size i.args ds gs before hsh hval hw' (hX _ _ _ (by rfl) hx)).mono fun e W' ⟨v, he, hp⟩ => ?_
  subst he
  exact ChangeSpec.post_blind hp
end Go.Proofs.YtpoiceejhcpnaaaGreatDoor
end

section
namespace Go.Proofs.YtpoiceejhcpnaaaGreatDoor.typesParts
open Go.ChangeShapes Go.WideShapes Go.ChangeAt Go.RowKit Go.Hs
set_option linter.unusedVariables false
set_option maxRecDepth 100000
theorem lifted (os : Os) (started : os.Started) (H : Type) (enc : TypeId × Value → H) :
    ReturnsInHanded {} Tryz.checked os 4 .any (fun w args => (Rows.typesPartsSpec.pre enc Tryz.prog Tryz.f4 Rows.typesPartsRow.domain false w args ∧ laidMet Tryz.prog laidAll w) ∧ sizedMet enc Tryz.prog Tryz.f4 (OpenSpec.ofChange Rows.typesPartsSpec) false w args)
      (Rows.typesPartsSpec.post enc Tryz.prog Tryz.f4 false true false false) := by
  refine lift_shaped (C := Tryz.checked) (X := fun w _ => laidMet Tryz.prog laidAll w) (fun _ _ _ hh h => h.of_heap hh) own started (by kernel_rfl) Tryz.func4
    (ChangeSpec.witness_at (enc := enc) (C := Tryz.checked) (os := os) (X := fun w _ => laidMet Tryz.prog laidAll w) false (laidWorld os) #[.agg #[.slice none 0 0], .slice none 0 0, .int .i64 0] 8 rfl (by kernel_rfl) (by kernel_rfl) (by kernel_rfl) (by kernel_rfl) (by kernel_rfl) (laidWorld_met os _)) ?_
  intro W base args ds gs before hS hval0 hW hL
  have hval : ∀ (j : Nat) t v, Tryz.f4.params[j]? = some t → args[j]? = some v → Value.okWide Tryz.prog W .any base t v := hval0
  have hW' := hW
  obtain ⟨p, q, hA0, hV, rfl, hfz, hnd⟩ := hW
  have hA : DataW.TrodAll enc Tryz.prog W 0 (fun _ => true) true Tryz.f4.params.toList args.toList ds p := hA0
  rw [Tryz.params4] at hA hval
  obtain ⟨v0, vs0, d0, ds0, p0, q0, hargs, rfl, rfl, h0, r0⟩ := trodAll_cons hA
  obtain ⟨v1, vs1, d1, ds1, p1, q1, rfl, rfl, rfl, h1, r1⟩ := trodAll_cons r0
  obtain ⟨v2, vs2, d2, ds2, p2, q2, rfl, rfl, rfl, h2, r2⟩ := trodAll_cons r1
  obtain ⟨rfl, rfl, rfl⟩ := trodAll_nil r2
  obtain rfl : args = #[v0, v1, v2] := by cases args; simp_all
  obtain ⟨rfl, rfl⟩ := trodVars_none hV
  obtain ⟨x0, hx0⟩ := argX (hval 0 24 v0 rfl rfl) h0
  obtain ⟨x1, hx1⟩ := argL (hval 1 25 v1 rfl rfl) h1
  obtain ⟨x2, i2, hx2⟩ := argI (hval 2 3 v2 rfl rfl) h2
  have hR : RelA (Cx.ofW W) #[v0, v1, v2] [.agg [encSl .old 6 encXN x0], encSl .old 1 V.str x1, V.int .i64 x2] := by
    refine ⟨rfl, fun i k1 k2 => ?_⟩
    match i, k1 with
    | 0, _ => exact hx0
    | 1, _ => exact hx1
    | 2, _ => exact hx2
  obtain ⟨m, hG⟩ := laid_G hL hS
  refine (Spec.toCallsG (lTypesParts (gE m) (gE_ok m) x0 x1 x2 i2) hG hR).mono ?_
  rintro e W' ⟨c, v, H', Y, rfl, hr, rfl, hB⟩
  obtain rfl := hr.bool_inv
  have hlt0 : ∀ x ∈ p0, x.block < W.heap.size := fun x hx => by simpa using hW'.lt x (by simp [hx])
  have hlt1 : ∀ x ∈ p1, x.block < W.heap.size := fun x hx => by simpa using hW'.lt x (by simp [hx])
  have hlt2 : ∀ x ∈ p2, x.block < W.heap.size := fun x hx => by simpa using hW'.lt x (by simp [hx])
  have k0 := Below.trod laidOut (by kernel_rfl) (of_decide_eq_true (by kernel_rfl)) h0 hB hlt0
  have k1 := Below.trod laidOut (by kernel_rfl) (of_decide_eq_true (by kernel_rfl)) h1 hB hlt1
  have k2 := Below.trod laidOut (by kernel_rfl) (of_decide_eq_true (by kernel_rfl)) h2 hB hlt2
  refine ⟨_, rfl, _, _, _, [], p0 ++ (p1 ++ (p2 ++ [])), [], hW', ?_, ?_, rfl, hB.frame _, fun h => by cases h⟩
  · exact trodAll_cons_mk (shut_bool Tryz.underlying4 _) trodAll_mk0
  · exact trodAll_cons_mk k0 (trodAll_cons_mk k1 (trodAll_cons_mk k2 trodAll_mk0))
theorem over : Rows.typesPartsRow.holds Tryz.pinned (OpenSpec.ofChange Rows.typesPartsSpec) :=
  OpenClaim.holds_of_wide 4 Tryz.f4 rfl rfl rfl rfl rfl rfl rfl ⟨rfl, rfl, rfl, rfl, rfl⟩ rfl rfl rfl rfl rfl (by kernel_rfl) Tryz.func4 (by kernel_rfl)
    (of_decide_eq_true (by kernel_rfl)) (by unfold Func.isWrapper; first | (rw [if_pos (by decide +kernel)]; kernel_rfl) | (rw [if_neg (by decide +kernel)]; exact ⟨rfl, rfl⟩))
    (fun os started H enc _ => lifted os started H enc)
theorem wants (j : Nat) (t : TypeId) (h : Tryz.f4.params[j]? = some t) : Tryz.prog.wantsStandIn t = false := by
  rw [Tryz.params4] at h
  match j, h with
  | 0, h => exact (Option.some.inj h : 24 = t) ▸ (show Tryz.prog.wantsStandIn 24 = false by kernel_rfl)
  | 1, h => exact (Option.some.inj h : 25 = t) ▸ (show Tryz.prog.wantsStandIn 25 = false by kernel_rfl)
  | 2, h => exact (Option.some.inj h : 3 = t) ▸ (show Tryz.prog.wantsStandIn 3 = false by kernel_rfl)
  | j + 3, h => cases h
/-- The statement. -/
theorem proved : Rows.TypesPartsCardSaid :=
  Claim7.holds_tied_plain_at .later [] [.data, .data, .data, .data, .sentinel, .sentinel, .widerDeep, .pinned] true (true, "c61799da9672bb93df461c861db7a63f9a2dff05b3c1b7d4d17194ccce321fe3") true
    over (fun _ h => by cases h) (by kernel_rfl) (fun _ h => by cases h) typesParts_row_tie rfl ⟨rfl, rfl⟩ (by kernel_rfl) rfl
    (fun f fn hf hfn => by
      obtain rfl : f = 4 := Option.some.inj ((show Tryz.prog.funcNamed "hopscotch/hopscotchlaw09.TypesParts" = some 4 by kernel_rfl).symm.trans hf) |>.symm
      obtain rfl : fn = Tryz.f4 := (Option.some.inj (Tryz.func4.symm.trans hfn)).symm
      exact ⟨by kernel_rfl, fun j t ht => wants j t ht⟩)
    (by kernel_rfl)
#print axioms proved
end Go.Proofs.YtpoiceejhcpnaaaGreatDoor.typesParts
end
