/- For every input ETypesKindsS returns true, and its arguments read as before. No condition. -/
/- Part 44 of the proof of a statement of seat YtpoiceejhcpnaaaGreatDoor: HsETypL1 HsEExpLaid HsEExpLaidG HsEExpArgs HsETypesKindsS. -/
import Derived.Test.YtpoiceejhcpnaaaGreatDoorPart42
import Derived.Test.YtpoiceejhcpnaaaGreatDoorPart43
import Derived.Test.YtpoiceejhcpnaaaGreatDoorRows
import Derived.ProofKit
import Derived.OpenShut
import Derived.LaidLaws
import Derived.Stop.LaidErr
import Derived.Lib.LaidTab
import Derived.Handed
import Derived.ChangeMaps5
import Derived.Test.YtpoiceejhcpnaaaGreatDoorTie
import Derived.Test.YtpoiceejhcpnaaaGreatDoorCards
set_option linter.unusedSimpArgs false
set_option linter.unusedVariables false
section
namespace Go.Hs
open Go.Proofs
set_option maxRecDepth 10000
theorem goN_le {names : List (List UInt8)} : ∀ (l : List XN) (i : Int) (acc : List Int), (goN names l i acc).1.length ≤ acc.length + l.length
  | [], i, acc => Nat.le_refl _
  | n :: r, i, acc => by
    rw [goN]
    split
    · exact Nat.zero_le _
    · have := goN_le (names := names) r (i + 1) (acc ++ [kindN names n acc])
      simp only [List.length_append, List.length_cons, List.length_nil] at this ⊢
      omega
theorem kindsP_le {names : List (List UInt8)} {l : List XN} : (kindsP names l).1.length ≤ l.length := by
  unfold kindsP
  split
  · exact Nat.zero_le _
  · have := goN_le (names := names) l 0 []
    simpa using this
theorem old_xns (s : Sl XN) : V.Old (encSl .old 6 encXN s) := Old.enc (fun n y hy => by
  simp only [encXN_K, V.cells, List.mem_cons, List.not_mem_nil, or_false] at hy
  rcases hy with rfl | rfl | rfl | rfl | rfl | rfl <;> first | exact .int _ _ | exact .str _) s
theorem old_strs (s : Sl (List UInt8)) : V.Old (encSl .old 1 V.str s) := Old.enc (fun n y hy => by simp [V.cells] at hy; subst hy; exact .str _) s
theorem old_u8 (s : Sl Int) : V.Old (encSl .old 1 (V.int .u8) s) := Old.enc (fun n y hy => by simp [V.cells] at hy; subst hy; exact .int _ _) s
/- law09.TypesKinds -/
theorem lTypesKinds (G : Nat → V) (hE : GExp G) (hGo : ∀ g, (G g).Old) (s : Sl XN) (names : Sl (List UInt8)) :
    Spec Tryz.prog G 3 [.agg [encSl .old 6 encXN s], encSl .old 1 V.str names] hNone (fun v _ => v = .bool true) := by
  have hG := hE.ok
  refine Spec.of_code' 0 97 [.tmp 4] Tryz.func3 rfl rfl rfl rfl fun X => ?_
  refine AW.seq_k fun K hK => AW.region (by kernel_rfl) ?_
  simp -implicitDefEqProofs only [go_sem, seval, ↓reduceIte]
  intro g2
  refine hK _ ?_
  clear hK K
  refine AW.seqJ (fun (_ : Unit) => st [(1, encSl .old 1 V.str names), (2, .ptr 2 g2 0)] [(2, .cells .new g2 0 [encSl .old 6 encXN s])]) (fun _ => fewT s.l names.l = true) (fun K1 hK1 => ?_) ?_
  · refine AW.seq_k fun K hK => AW.region (by kernel_rfl) ?_
    simp -implicitDefEqProofs only [go_sem, seval, ↓reduceIte]
    refine CallA.pure hG (by kernel_rfl) ?_
    simp -implicitDefEqProofs only [go_sem, seval, ↓reduceIte, recol_xns]
    refine (wFew_spec G hG _ _ s names).mono ?_
    rintro _ _ rfl
    simp -implicitDefEqProofs only [go_sem, seval, ↓reduceIte]
    refine hK _ ?_
    clear hK K
    cases hf : fewT s.l names.l with
    | false =>
      refine AW.condS (by simp -implicitDefEqProofs only [go_sem, seval, ↓reduceIte]; rfl) (fun h22 => ?_) (fun h22 => ?_)
      · refine AW.seq_k fun K hK => AW.region (by kernel_rfl) ?_
        simp -implicitDefEqProofs only [go_sem, seval, ↓reduceIte]
        refine CallA.pure hG (by kernel_rfl) ?_
        simp -implicitDefEqProofs only [go_sem, seval, ↓reduceIte, List.map_nil]
        refine (wWorks_spec G hE).mono ?_
        rintro _ _ rfl
        simp -implicitDefEqProofs only [go_sem, seval, ↓reduceIte]
        refine hK _ ?_
        clear hK K
        refine AW.ret ?_
        simp -implicitDefEqProofs only [go_sem, seval, ↓reduceIte]
        refine endK_some ?_
        rfl
      · cases h22
    | true =>
      refine AW.condS (by simp -implicitDefEqProofs only [go_sem, seval, ↓reduceIte]; rfl) (fun h22 => ?_) (fun h22 => ?_)
      · cases h22
      refine AW.skip ?_
      simp -implicitDefEqProofs only [go_sem, seval, ↓reduceIte]
      exact hK1 _ () hf (Weak.st (by simp -implicitDefEqProofs only [go_sem, seval, ↓reduceIte]; try rfl) (by simp -implicitDefEqProofs only [go_sem, seval, ↓reduceIte]; try rfl))
  rintro _ hf
  obtain ⟨hl1, hl2, hl3, hl4⟩ := fewT_true hf
  have hs : s.l.length < 1000000 := by omega
  have hnm : ∀ n ∈ s.l, n.name.length < 100000 := fun n hn => by have := hl4 n hn; omega
  have hnl : names.l.length < 1000000 := by omega
  have hle := kindsP_le (names := names.l) (l := s.l)
  have hR := fun c c1 => r9Kinds_spec G hG c c1 (grownS s.l) names (by rw [grownS_l]; exact hs) (by rw [grownS_l]; exact hnm) hnl
  have hRo := fun c c1 => r9Of_spec G hG c c1 (grownS s.l) names (by rw [grownS_l]; exact hs) (by rw [grownS_l]; exact hnm) hnl
  have hT := fun c c1 => tKinds_spec G hE c c1 s names hs hnm hnl
  have hTo := fun c c1 => tOf_spec G hE c c1 s names hs hnm hnl
  simp only [grownS_l] at hR hRo
  generalize kindsP names.l s.l = p at hle hR hT
  generalize ofTP names.l s.l = o at hRo hTo
  obtain ⟨W, wi, we⟩ := p
  obtain ⟨o1, o2, o3⟩ := o
  simp only at hle
  refine AW.seq_k fun K hK => AW.region (by kernel_rfl) ?_
  simp -implicitDefEqProofs only [go_sem, seval, ↓reduceIte]
  refine CallA.pure hG (by kernel_rfl) ?_
  simp -implicitDefEqProofs only [go_sem, seval, ↓reduceIte, recol_xns]
  refine (wRef_spec G hG _ s hs).mono ?_
  rintro _ _ rfl
  simp -implicitDefEqProofs only [go_sem, seval, ↓reduceIte, encXs, recol_xns]
  refine CallA.pure hG (by kernel_rfl) ?_
  simp -implicitDefEqProofs only [go_sem, seval, ↓reduceIte, recol_xns]
  refine (hR _ _).mono ?_
  rintro _ _ rfl
  simp -implicitDefEqProofs only [go_sem, seval, ↓reduceIte, encKr, encKs, recol_ks]
  refine hK _ ?_
  clear hK K
  refine AW.weak (Weak.stF (fun _ => false) (l := [(1, encSl .old 1 V.str names), (2, .ptr 2 g2 0), (5, encSl .new 1 (V.int .u8) (grownS W)), (6, .int .i64 wi), (7, .int .i64 we)]) (m := [(2, .cells .new g2 0 [encSl .old 6 encXN s])]) ?_ ?_) ?_
  · simp -implicitDefEqProofs only [go_sem, seval, ↓reduceIte]
    exact ⟨Fz.same _, Fz.same _, Fz.same _, Fz.same _, Fz.same _⟩
  · simp only [allFzO_cons, allFzO_nil, and_true]
    exact FzO.keep rfl (by simp -implicitDefEqProofs only [go_sem, seval, ↓reduceIte])
  refine AW.rebase hG fun X1 H1 hb1 hI1 => ?_
  simp -implicitDefEqProofs only [go_sem, seval, ↓reduceIte, List.map_cons, List.map_nil, recol_cells, recol_ptr, recol_xns, recol_ks]
  refine AW.weak (Weak.stF (fun _ => false) (l := [(1, encSl .old 1 V.str names), (2, .ptr 2 g2 0), (5, encSl .old 1 (V.int .u8) (grownS W)), (6, .int .i64 wi), (7, .int .i64 we)]) (m := [(2, .cells .old g2 0 [encSl .old 6 encXN s])]) ?_ ?_) ?_
  · simp -implicitDefEqProofs only [go_sem, seval, ↓reduceIte]
    exact ⟨Fz.same _, Fz.same _, Fz.same _, Fz.same _, Fz.same _⟩
  · simp only [allFzO_cons, allFzO_nil, and_true]
    exact FzO.keep rfl (by simp -implicitDefEqProofs only [go_sem, seval, ↓reduceIte])
  refine AW.seq_k fun K2 hK2 => ?_
  refine AW.seq_k fun K hK => AW.region (by kernel_rfl) ?_
  simp -implicitDefEqProofs only [go_sem, seval, ↓reduceIte]
  refine hK _ ?_
  clear hK K
  refine AW.block ?_
  refine AW.for 2 (fun k (_ : Unit) => st [(1, encSl .old 1 V.str names), (2, .ptr 2 g2 0), (5, encSl .old 1 (V.int .u8) (grownS W)), (6, .int .i64 wi), (7, .int .i64 we), (8, .int .i64 k)] [(2, .cells .old g2 0 [encSl .old 6 encXN s])])
    (fun _ _ => True) 0 () (Nat.zero_le _) trivial (Weak.st (by simp -implicitDefEqProofs only [go_sem, seval, ↓reduceIte]; try rfl) (by simp -implicitDefEqProofs only [go_sem, seval, ↓reduceIte]; try rfl)) ?_
  intro k _ hk _ L3 hL3
  refine AW.seq_k fun K4 hK4 => ?_
  refine AW.seq_k fun K hK => AW.region (by kernel_rfl) ?_
  simp -implicitDefEqProofs only [go_sem, seval, ↓reduceIte]
  refine hK _ ?_
  clear hK K
  refine AW.condS (by simp -implicitDefEqProofs only [go_sem, seval, ↓reduceIte]; rfl) (fun h33 => ?_) (fun h33 => ?_)
  · have hk1 : k < 2 := by have : decide ((k : Int) < 2) = true := h33; simp at this; omega
    refine AW.skip ?_
    simp -implicitDefEqProofs only [go_sem, seval, ↓reduceIte]
    refine hK4 _ ?_
    refine AW.seq_k fun K5 hK5 => ?_
    refine AW.block ?_
    refine AW.seq_k fun K hK => AW.region (by kernel_rfl) ?_
    simp -implicitDefEqProofs only [go_sem, seval, ↓reduceIte]
    refine CallA.pure hG (by kernel_rfl) ?_
    simp -implicitDefEqProofs only [go_sem, seval, ↓reduceIte, recol_xns]
    refine (hT _ _).mono ?_
    rintro _ _ rfl
    simp -implicitDefEqProofs only [go_sem, seval, ↓reduceIte, encKr, encKs, recol_ks]
    refine hK _ ?_
    clear hK K
    refine AW.seq_k fun K6 hK6 => ?_
    refine AW.seq_k fun K hK => AW.region (by kernel_rfl) ?_
    simp -implicitDefEqProofs only [go_sem, seval, ↓reduceIte]
    refine CallA.pure hG (by kernel_rfl) ?_
    simp -implicitDefEqProofs only [go_sem, seval, ↓reduceIte, recol_ks]
    refine (wKinds_spec G hG _ _ (grownS W) (grownS W) (by rw [grownS_l]; omega)).mono ?_
    rintro _ _ rfl
    have hb1' : ((grownS W).l == (grownS W).l) = true := by simp
    have hb2 : (wi != wi) = false := by simp
    have hb3 : (we != we) = false := by simp
    simp -implicitDefEqProofs only [go_sem, seval, ↓reduceIte, hb1', hb2, hb3]
    refine hK _ ?_
    clear hK K
    refine AW.condS (by simp -implicitDefEqProofs only [go_sem, seval, ↓reduceIte]; rfl) (fun h56 => ?_) (fun h56 => ?_)
    · cases h56
    refine AW.skip ?_
    simp -implicitDefEqProofs only [go_sem, seval, ↓reduceIte]
    refine hK6 _ ?_
    refine AW.seq_k fun K hK => AW.region (by kernel_rfl) ?_
    simp -implicitDefEqProofs only [go_sem, seval, ↓reduceIte]
    refine hK _ ?_
    clear hK K
    refine AW.block ?_
    refine AW.while (fun (y : Sl Int × Nat) => st [(1, encSl .old 1 V.str names), (2, .ptr 2 g2 0), (5, encSl .old 1 (V.int .u8) (grownS W)), (6, .int .i64 wi), (7, .int .i64 we), (8, .int .i64 k), (9, encSl .new 1 (V.int .u8) y.1), (12, .int .i64 y.2)] [(2, .cells .old g2 0 [encSl .old 6 encXN s])])
      (fun y => y.1.l.length ≤ 60 ∧ y.2 ≤ 60) (fun y => 61 - y.2) (grownS W, 0) ⟨by show (grownS W).l.length ≤ 60; rw [grownS_l]; omega, Nat.zero_le _⟩ (Weak.st (by simp -implicitDefEqProofs only [go_sem, seval, ↓reduceIte]; try rfl) (by simp -implicitDefEqProofs only [go_sem, seval, ↓reduceIte]; try rfl)) ?_
    rintro ⟨y, i⟩ ⟨hy, hi⟩ L7 hL7
    replace hy : y.l.length ≤ 60 := hy
    replace hi : i ≤ 60 := hi
    refine AW.seq_k fun K8 hK8 => ?_
    refine AW.seq_k fun K hK => AW.region (by kernel_rfl) ?_
    simp -implicitDefEqProofs only [go_sem, seval, ↓reduceIte]
    refine hK _ ?_
    clear hK K
    refine AW.condS (by simp -implicitDefEqProofs only [go_sem, seval, ↓reduceIte]; rfl) (fun h60 => ?_) (fun h60 => ?_)
    · have hi1 : i < y.l.length := by simpa using h60
      have hg := List.getElem?_eq_getElem hi1
      refine AW.skip ?_
      simp -implicitDefEqProofs only [go_sem, seval, ↓reduceIte]
      refine hK8 _ ?_
      refine AW.seq_k fun K9 hK9 => ?_
      refine AW.block ?_
      refine AW.storeN [(1, encSl .old 1 V.str names), (2, .ptr 2 g2 0), (5, encSl .old 1 (V.int .u8) (grownS W)), (6, .int .i64 wi), (7, .int .i64 we), (8, .int .i64 k), (12, .int .i64 i)] [(2, .cells .old g2 0 [encSl .old 6 encXN s])] [(9, shNums .u8 60)] hb1 hI1 hGo (by intro p hp; simp at hp; subst hp; exact fun i _ => trivial) (by kernel_rfl) (by kernel_rfl) rfl ?_ ?_ ?_
      · simp -implicitDefEqProofs only [go_sem, seval, ↓reduceIte]
        exact ⟨old_strs _, .ptr _ _ _, old_u8 _, .int _ _, .int _ _, .int _ _, .int _ _⟩
      · simp -implicitDefEqProofs only [go_sem, seval, ↓reduceIte]
        simp only [List.mem_singleton, forall_eq]
        exact old_xns s
      simp -implicitDefEqProofs only [go_sem, seval, ↓reduceIte, List.dropLast, hg]
      refine ⟨⟨_, rfl, rfl, by kernel_rfl, ⟨rfl, trivial⟩, by decide⟩, shNums_of hy, ?_⟩
      rintro _ ⟨v, _, rfl, hv, rfl⟩
      obtain ⟨y2, rfl, hy2⟩ := shNums_to hv
      simp -implicitDefEqProofs only [go_sem, seval, ↓reduceIte]
      refine hK9 _ ?_
      refine AW.region (by kernel_rfl) ?_
      simp -implicitDefEqProofs only [go_sem, seval, ↓reduceIte]
      exact hL7 _ ⟨(y2, i + 1), by show 61 - (i + 1) < 61 - i; omega, ⟨hy2, by show i + 1 ≤ 60; omega⟩, Weak.st (by simp -implicitDefEqProofs only [go_sem, seval, ↓reduceIte]; exact congrArg _ (w64 (by omega) (by omega))) (by simp -implicitDefEqProofs only [go_sem, seval, ↓reduceIte]; try rfl)⟩
    · refine AW.exit ?_
      simp -implicitDefEqProofs only [go_sem, seval, ↓reduceIte]
      refine hK5 _ ?_
      refine AW.region (by kernel_rfl) ?_
      simp -implicitDefEqProofs only [go_sem, seval, ↓reduceIte]
      exact hL3 _ ⟨hk1, (), trivial, Weak.st (by simp -implicitDefEqProofs only [go_sem, seval, ↓reduceIte]; exact congrArg _ (w64 (by omega) (by omega))) (by simp -implicitDefEqProofs only [go_sem, seval, ↓reduceIte]; try rfl)⟩
  refine AW.exit ?_
  simp -implicitDefEqProofs only [go_sem, seval, ↓reduceIte]
  refine hK2 _ ?_
  refine AW.seq_k fun K hK => AW.region (by kernel_rfl) ?_
  simp -implicitDefEqProofs only [go_sem, seval, ↓reduceIte]
  refine CallA.pure hG (by kernel_rfl) ?_
  simp -implicitDefEqProofs only [go_sem, seval, ↓reduceIte, recol_xns]
  refine (hTo _ _).mono ?_
  rintro _ _ rfl
  simp -implicitDefEqProofs only [go_sem, seval, ↓reduceIte, encO3]
  refine hK _ ?_
  clear hK K
  refine AW.seq_k fun K hK => AW.region (by kernel_rfl) ?_
  simp -implicitDefEqProofs only [go_sem, seval, ↓reduceIte]
  refine CallA.pure hG (by kernel_rfl) ?_
  simp -implicitDefEqProofs only [go_sem, seval, ↓reduceIte, recol_xns]
  refine (wRef_spec G hG _ s hs).mono ?_
  rintro _ _ rfl
  simp -implicitDefEqProofs only [go_sem, seval, ↓reduceIte, encXs, recol_xns]
  refine CallA.pure hG (by kernel_rfl) ?_
  simp -implicitDefEqProofs only [go_sem, seval, ↓reduceIte, recol_xns]
  refine (hRo _ _).mono ?_
  rintro _ _ rfl
  simp -implicitDefEqProofs only [go_sem, seval, ↓reduceIte, encO3]
  refine hK _ ?_
  clear hK K
  have e1 : (o1 == o1) = true := by simp
  have e2 : (o2 == o2) = true := by simp
  have e3 : (o3 == o3) = true := by simp
  refine AW.seq_k fun K hK => AW.region (by kernel_rfl) ?_
  simp -implicitDefEqProofs only [go_sem, seval, ↓reduceIte, e1, e2, e3]
  refine CallA.pure hG (by kernel_rfl) ?_
  simp -implicitDefEqProofs only [go_sem, seval, ↓reduceIte, List.map_nil]
  refine (wWorks_spec G hE).mono ?_
  rintro _ _ rfl
  simp -implicitDefEqProofs only [go_sem, seval, ↓reduceIte]
  refine hK _ ?_
  clear hK K
  refine AW.ret ?_
  simp -implicitDefEqProofs only [go_sem, seval, ↓reduceIte]
  refine endK_some ?_
  rfl
end Go.Hs
end

section
namespace Go.Proofs.YtpoiceejhcpnaaaGreatDoor
open Go.RowKit Go.Hs
set_option maxRecDepth 100000
/-- What the statements of this seat list. -/
def laidAll : List (String × DataW Unit) := [("math/bits.deBruijn32tab", Rows.laid_math_bits_deBruijn32tab), ("math/bits.deBruijn64tab", Rows.laid_math_bits_deBruijn64tab), ("internal/strconv.uint64pow10", Rows.laid_internal_strconv_uint64pow10), ("unicode/utf8.acceptRanges", Rows.laid_unicode_utf8_acceptRanges), ("strconv.ErrRange", Rows.laid_strconv_ErrRange), ("strconv.ErrSyntax", Rows.laid_strconv_ErrSyntax), ("hopscotch/lex.signs", Rows.laid_hopscotch_lex_signs), ("unicode/utf8.first", Rows.laid_unicode_utf8_first)]
/-! ### A world that meets it -/
noncomputable def low : Nat := (World.holding Tryz.prog default ⟨#[], #[], []⟩).heap.size
def b32 : List Int := [0, 1, 28, 2, 29, 14, 24, 3, 30, 22, 20, 15, 25, 17, 4, 8, 31, 27, 13, 23, 21, 19, 16, 7, 26, 12, 18, 6, 11, 5, 10, 9]
def b64 : List Int := 0 :: 1 :: 56 :: 2 :: 57 :: 49 :: 28 :: 3 :: 61 :: 58 :: 42 :: 50 :: 38 :: 29 :: 17 :: 4 :: 62 :: 47 :: 59 :: 36 :: 45 :: 43 :: 51 :: 22 :: 53 :: 39 :: 33 :: 30 :: 24 :: 18 :: 12 :: 5 :: 63 :: 55 :: 48 :: 27 :: 60 :: 41 :: 37 :: 16 :: 46 :: 35 :: 44 :: 21 :: 52 :: 32 :: 23 :: 11 :: 54 :: 26 :: 40 :: 15 :: 34 :: 20 :: 31 :: 10 :: 25 :: 14 :: 19 :: 9 :: 13 :: 8 :: 7 :: 6 :: []
def acR : List Int := [128, 191, 160, 191, 128, 159, 144, 191, 128, 143] ++ List.replicate 22 0
def errR : ByteArray := { data := #[118, 97, 108, 117, 101, 32, 111, 117, 116, 32, 111, 102, 32, 114, 97, 110, 103, 101] }
def errS : ByteArray := { data := #[105, 110, 118, 97, 108, 105, 100, 32, 115, 121, 110, 116, 97, 120] }
def withCells (cs : Array Value) : Obj → Obj
  | .cells _ t frozen => .cells cs t frozen
  | o => o
noncomputable def laidWorld (os : Os) : World :=
  let w0 := World.holding Tryz.prog os ⟨#[.cells #[.string errR] 240, .cells #[.string errS] 240], #[], []⟩
  { w0 with heap := (((((((w0.heap.modify 1 (withCells #[.iface 238 (.pointer (some ⟨low, 0, none⟩))])).modify 6 (withCells #[.iface 238 (.pointer (some ⟨low + 1, 0, none⟩))])).modify 3
      (withCells (Lib.pow10Tab.map (Value.int .u64)).toArray)).modify 7 (withCells (b32.map (Value.int .u8)).toArray)).modify 8 (withCells (b64.map (Value.int .u8)).toArray)).modify 5 (withCells (acR.map (Value.int .u8)).toArray)).modify
      0 (withCells (signsL.map fun s => Value.string ⟨s.toArray⟩).toArray)).modify 4 (withCells (Pinned.utf8FirstZ.map fun (n : Nat) => Value.int .u8 (n : Int)).toArray) }
theorem laidWorld_met (os : Os) (args : Array Value) : laidMet Tryz.prog laidAll ((laidWorld os).forCall (fun _ _ => 0) ⟨#[], args, []⟩).memory :=
  laidMet_of_run' 8 (by kernel_rfl) (by kernel_rfl)
end Go.Proofs.YtpoiceejhcpnaaaGreatDoor
end

section
namespace Go.Proofs.YtpoiceejhcpnaaaGreatDoor
open Go.RowKit Go.Hs
set_option maxRecDepth 100000
theorem laidMet_tail {P : Program} {W : World} {x : String × DataW Unit} {r : List (String × DataW Unit)} (h : laidMet P (x :: r) W) : laidMet P r W := by
  obtain ⟨n, d⟩ := x
  obtain ⟨ps, ⟨g0, t0, cs0, f0, p0, q0, hg0, ht0, hv0, hd0, hq, e0⟩, hnd, hrows⟩ := h
  subst e0
  exact ⟨q0, hq, (List.nodup_append.1 hnd).2.1, fun b off hm => hrows b off (List.mem_append.2 (.inr hm))⟩
/-- What is known of the package-level variables. -/
noncomputable def gE (m : Int) : Nat → V := fun g => if g = 1 then .view .old (.iface 238 (.view .old (.agg []))) else if g = 3 then .view .old (.agg (Lib.pow10Tab.map (V.int .u64)))
  else if g = 0 then .view .old (.agg (signsL.map V.str)) else if g = 2 then .view .old (.int .i64 m) else .top
theorem recolL_ints (f : Col → Col) : ∀ l : List Int, V.recolL f (l.map (V.int .u64)) = l.map (V.int .u64)
  | [] => rfl
  | x :: r => by simp only [List.map_cons, V.recolL]; rw [recolL_ints f r]; rfl
theorem recolL_strs (f : Col → Col) : ∀ l : List (List UInt8), V.recolL f (l.map V.str) = l.map V.str
  | [] => rfl
  | x :: r => by simp only [List.map_cons, V.recolL]; rw [recolL_strs f r]; rfl
theorem gE_ok (m : Int) : GExp (gE m) where
  ok := fun g => by
    unfold gE
    split
    · exact ⟨rfl, .view _ _ fun x hx => by simp [V.cells] at hx; subst hx; exact .iface _ _ (.view _ _ fun x hx => by simp [V.cells] at hx)⟩
    · split
      · refine ⟨by simp only [V.recol, Col.ent, recolL_ints], .view _ _ fun x hx => ?_⟩
        obtain ⟨n, _, rfl⟩ := List.mem_map.1 hx
        exact .int _ _
      · split
        · refine ⟨by simp only [V.recol, Col.ent, recolL_strs], .view _ _ fun x hx => ?_⟩
          obtain ⟨n, _, rfl⟩ := List.mem_map.1 hx
          exact .str _
        · split
          · exact ⟨rfl, .view _ _ fun x hx => by simp [V.cells] at hx; subst hx; exact .int _ _⟩
          · exact ⟨rfl, .top⟩
  er := ⟨_, _, _, rfl⟩
  tab := ⟨_, rfl⟩
  sg := ⟨_, rfl⟩
  ml := ⟨_, m, rfl⟩
theorem gE_old (m : Int) (g : Nat) : (gE m g).Old := by
  unfold gE
  split
  · exact .view _ fun x hx => by simp [V.cells] at hx; subst hx; exact .iface _ _ (.view _ fun x hx => by simp [V.cells] at hx)
  · split
    · refine .view _ fun x hx => ?_
      obtain ⟨n, _, rfl⟩ := List.mem_map.1 hx
      exact .int _ _
    · split
      · refine .view _ fun x hx => ?_
        obtain ⟨n, _, rfl⟩ := List.mem_map.1 hx
        exact .str _
      · split
        · exact .view _ fun x hx => by simp [V.cells] at hx; subst hx; exact .int _ _
        · exact .top
theorem gER : Tryz.prog.globalNamed "strconv.ErrRange" = some 1 := by kernel_rfl
theorem gERType : (Tryz.prog.globals[1]?).map (·.type) = some 136 := by kernel_rfl
theorem cells111 : Tryz.prog.cellsOf 240 = 1 := by kernel_rfl
theorem cells9 : Tryz.prog.cellsOf 9 = 1 := by kernel_rfl
theorem star : "*" ++ "errors.errorString" = "*errors.errorString" := by decide
theorem row109 (u : TypeId) (h : Tryz.prog.typeName? 3 u = some "*errors.errorString") : u = 238 :=
  typeName_ptr_named (nm := "errors.errorString") (by rw [star]; kernel_rfl) (by kernel_rfl) (by decide) u (by rw [star]; exact h)
theorem gTab : Tryz.prog.globalNamed "internal/strconv.uint64pow10" = some 3 := by kernel_rfl
theorem gTabType : ∃ t n, (Tryz.prog.globals[3]?).map (·.type) = some t ∧ Tryz.prog.underlying t = some (.array n 182) ∧ Tryz.prog.cellsOf t = n ∧ n = 20 := by
  refine ⟨(((Tryz.prog.globals[3]?).map (·.type)).getD 0), 20, by kernel_rfl, by kernel_rfl, by kernel_rfl, rfl⟩
theorem laid_tab {W : World} (h : laidMet Tryz.prog laidAll W) : Lib.TabIs Tryz.prog W "internal/strconv.uint64pow10" .u64 Lib.pow10Tab := by
  obtain ⟨t, n, h1, h2, h3, rfl⟩ := gTabType
  have e : (Rows.laid_internal_strconv_uint64pow10 : DataW Unit) = Lib.tabData .u64 Lib.pow10Tab := by rfl
  have h4 := laidMet_tail (laidMet_tail h)
  rw [e] at h4
  exact Lib.tabIs_of_head gTab h1 h2 Tryz.underlying182 (by kernel_rfl) h3 h4
theorem laid_err {W : World} (h : laidMet Tryz.prog laidAll W) : ∃ b off, W.cell? ⟨1, 0, none⟩ = some (.iface 238 (.pointer (some ⟨b, off, none⟩))) := by
  obtain ⟨a, s, h1, h2, _, _⟩ := laid_sentinel (laidMet_tail (laidMet_tail (laidMet_tail (laidMet_tail h)))) gER gERType Tryz.underlying136 row109 Tryz.underlying238 Tryz.underlying240 rfl rfl Tryz.underlying9 cells111 cells9
  have h0 := World.var?_cell gER h1 0
  have hs := World.cell?_spot h2
  obtain ⟨b, off, sp⟩ := a
  have hs : sp = none := hs
  subst hs
  exact ⟨b, off, by simpa using h0⟩
/-! ### A table of texts -/
def strData {H : Type} (zs : List (List UInt8)) : DataW H := .agg (zs.map fun z => .lit (.string z))
theorem cells_of_strs {H : Type} {enc : TypeId × Value → H} {P : Program} {w : World} {base : Nat} {sp : Nat → Bool} {held : Bool} {fuel : Nat} {t e : TypeId} {n : Nat} {cs : List Value} {zs : List (List UInt8)} {p : List MemPlace}
    (ht : P.underlying t = some (.array n e)) (he : P.underlying e = some .string) (hce : P.cellsOf e = 1) (hct : P.cellsOf t = n)
    (h : DataW.trod enc P w base sp held fuel t cs = some (strData zs, p)) : cs.length = zs.length ∧ ∀ i (hi : i < zs.length), ∃ s : ByteArray, cs[i]? = some (.string s) ∧ s.data.toList = zs[i] := by
  cases fuel with
  | zero => simp [DataW.trod] at h
  | succ fuel =>
    simp only [DataW.trod, ht, hce, hct, Nat.mul_one] at h
    split at h
    · rename_i hl
      obtain ⟨xs, hm, hx⟩ := Option.map_eq_some_iff.1 h
      have hxs : xs.map (·.1) = zs.map fun z => (DataW.lit (.string z) : DataW H) := by
        have := congrArg Prod.fst hx
        simpa [strData] using this
      have hxl : xs.length = n := by simpa using Lib.mapM_length hm
      have hzl : zs.length = n := by
        have := congrArg List.length hxs
        simp at this
        omega
      refine ⟨by omega, fun i hi => ?_⟩
      have hin : i < n := by omega
      obtain ⟨b, hb, hf⟩ := Lib.mapM_at hm i i (by simp [hin])
      obtain ⟨z, hc, rfl, _⟩ := DataW.trod_string he hf
      have h1 : cs[i]? = some (.string z) := by
        have := congrArg (·[0]?) hc
        simpa [List.getElem?_take, List.getElem?_drop] using this
      have h2 : (xs.map (·.1))[i]? = some (DataW.lit (.string z.data.toList) : DataW H) := by simp [hb]
      rw [hxs, List.getElem?_map, List.getElem?_eq_getElem hi] at h2
      refine ⟨z, h1, ?_⟩
      have h3 : (DataW.lit (.string zs[i]) : DataW H) = .lit (.string z.data.toList) := Option.some.inj h2
      injection h3 with h3
      injection h3 with h3
      exact h3.symm
    · cases h
theorem gSg : Tryz.prog.globalNamed "hopscotch/lex.signs" = some 0 := by kernel_rfl
theorem gSgType : (Tryz.prog.globals[0]?).map (·.type) = some 148 := by kernel_rfl
theorem laid_signs {W : World} (h : laidMet Tryz.prog laidAll W) : ∃ cs : Array Value, W.var? Tryz.prog "hopscotch/lex.signs" = some cs ∧ cs.size = 14 ∧ ∀ i (hi : i < signsL.length), ∃ s : ByteArray, cs[i]? = some (.string s) ∧ s.data.toList = signsL[i] := by
  have e : (Rows.laid_hopscotch_lex_signs : DataW Unit) = strData signsL := by rfl
  have h4 := laidMet_tail (laidMet_tail (laidMet_tail (laidMet_tail (laidMet_tail (laidMet_tail h)))))
  rw [e] at h4
  obtain ⟨ps, ⟨g', t', cs, fuel, p, q, hg', ht', hvar, hd, _, _⟩, _⟩ := h4
  obtain rfl := Option.some.inj (gSg.symm.trans hg')
  obtain rfl := Option.some.inj (gSgType.symm.trans ht')
  obtain ⟨h1, h2⟩ := cells_of_strs Tryz.underlying148 Tryz.underlying9 cells9 (by kernel_rfl) hd
  refine ⟨_, hvar, (by simpa using h1 : cs.size = signsL.length).trans rfl, fun i hi => ?_⟩
  obtain ⟨s, h3, h4⟩ := h2 i hi
  exact ⟨s, by simpa using h3, h4⟩
/-- What is not laid is a number all the same. -/
theorem maxlen_of {W : World} (h : W.ShapedOpen Tryz.prog) : ∃ m, W.cell? ⟨2, 0, none⟩ = some (.int .i64 m) := by
  obtain ⟨cs, hh, hs, hr⟩ := h.1 2 #[.int .i64 0] 3 (of_decide_eq_true (by kernel_rfl)) (by kernel_rfl)
  obtain ⟨ts, hts, _, hall⟩ := hr (by kernel_rfl)
  rw [show Tryz.prog.cellTypes Tryz.prog.depth 3 = some [3] by kernel_rfl] at hts
  cases hts
  have h1 : 0 < cs.size := by rw [hs]; decide
  obtain ⟨u, hu', hok⟩ := hall 0 cs[0] (by simp [h1])
  have : u = 3 := by simpa using hu'.symm
  subst this
  have hcell : W.cell? ⟨2, 0, none⟩ = some cs[0] := by simp [World.cell?, hh, h1]
  rw [hcell]
  unfold Cell.ok at hok
  rw [Tryz.underlying3] at hok
  cases hv : cs[0] <;> rw [hv] at hok <;> first | (obtain ⟨rfl, _⟩ := hok; exact ⟨_, rfl⟩) | simp at hok
/-- **From the statement's condition to what the contracts ask.** -/
theorem laid_G {W : World} (h : laidMet Tryz.prog laidAll W) (hS : W.ShapedOpen Tryz.prog) : ∃ m, ∀ g, RelG (Cx.ofW W) g (gE m g) := by
  obtain ⟨m, hml⟩ := maxlen_of hS
  refine ⟨m, fun g => ?_⟩
  unfold gE
  split
  · rename_i hg
    subst hg
    obtain ⟨b, off, h1⟩ := laid_err h
    refine ⟨?_, trivial⟩
    refine .view .old _ 1 0 (fun _ => .iface 238 (.pointer (some ⟨b, off, none⟩))) (fun i hi => ?_) (fun i hi => ?_)
    · have : i = 0 := by simpa [V.cells] using hi
      subst this
      refine ⟨by show (W.cell? _).isSome = true; rw [h1]; rfl, World.block_lt_of_cell? _ _ h1, h1, rfl⟩
    · have : i = 0 := by simpa [V.cells] using hi
      subst this
      exact .iface _ _ _ (.view .old _ b off (fun _ => .nilIface) (fun i hi => by simp [V.cells] at hi) (fun i hi => by simp [V.cells] at hi))
  · split
    · rename_i hg
      subst hg
      have ht := laid_tab h
      have hc : ∀ i (hi : i < Lib.pow10Tab.length), W.cell? ⟨3, i, none⟩ = some (.int .u64 (Lib.pow10Tab.getD i 0)) := fun i hi => ht.cell gTab i hi
      have hlen : Lib.pow10Tab.length = 20 := Lib.pow10Tab_length
      have hlt : 3 < W.heap.size := World.block_lt_of_cell? _ _ (hc 0 (by omega))
      have hv : W.var? Tryz.prog "internal/strconv.uint64pow10" = some (Lib.pow10Tab.map fun z => Value.int .u64 z).toArray := ht
      refine ⟨?_, ?_⟩
      · refine .view .old _ 3 0 (fun i => .int .u64 (Lib.pow10Tab.getD i 0)) (fun i hi => ?_) (fun i hi => ?_)
        · have hi : i < Lib.pow10Tab.length := by simpa [V.cells] using hi
          rw [Nat.zero_add]
          exact ⟨by show (W.cell? _).isSome = true; rw [hc i hi]; rfl, hlt, hc i hi, rfl⟩
        · have hi' : i < Lib.pow10Tab.length := by simpa [V.cells] using hi
          have key : ∀ v, v = V.int .u64 (Lib.pow10Tab.getD i 0) → Rel (Cx.ofW W) (Value.int .u64 (Lib.pow10Tab.getD i 0)) v := fun v e => by rw [e]; exact .int _ _
          exact key _ (by simp [V.cells, List.getD, hi'])
      · refine ⟨hlt, ?_⟩
        unfold World.var? at hv
        rw [gTab] at hv
        have hv : (match W.heap[3]? with | some (Obj.cells cs _ _) => some cs | _ => none) = some (Lib.pow10Tab.map fun z => Value.int .u64 z).toArray := hv
        split at hv
        · rename_i cs t fr hh
          cases hv
          exact ⟨_, t, fr, hh, by simp⟩
        · cases hv
    · split
      · rename_i hg
        subst hg
        obtain ⟨cs, hv, hsz, hcs⟩ := laid_signs h
        have h0 := fun i => World.var?_cell gSg hv i
        have hc : ∀ i (hi : i < signsL.length), ∃ s : ByteArray, W.cell? ⟨0, i, none⟩ = some (.string s) ∧ s.data.toList = signsL[i] := fun i hi => by
          obtain ⟨s, h1, h2⟩ := hcs i hi
          exact ⟨s, by rw [h0 i]; exact h1, h2⟩
        have hlt : 0 < W.heap.size := by
          obtain ⟨s, h1, _⟩ := hc 0 (by decide)
          exact World.block_lt_of_cell? _ _ h1
        refine ⟨?_, ?_⟩
        · refine .view .old _ 0 0 (fun i => (cs[i]?).getD undef) (fun i hi => ?_) (fun i hi => ?_)
          · have hi : i < signsL.length := by simpa [V.cells] using hi
            obtain ⟨s, h1, _⟩ := hcs i hi
            rw [Nat.zero_add, h1]
            have h2 : W.cell? ⟨0, i, none⟩ = some (.string s) := by rw [h0 i]; exact h1
            exact ⟨by show (W.cell? _).isSome = true; rw [h2]; rfl, hlt, h2, rfl⟩
          · have hi' : i < signsL.length := by simpa [V.cells] using hi
            obtain ⟨s, h1, h2⟩ := hcs i hi'
            rw [h1]
            have key : ∀ v, v = V.str signsL[i] → Rel (Cx.ofW W) (Value.string s) v := fun v e => by rw [e]; exact .str _ _ h2
            exact key _ (by simp [V.cells])
        · refine ⟨hlt, ?_⟩
          unfold World.var? at hv
          rw [gSg] at hv
          have hv : (match W.heap[0]? with | some (Obj.cells cs _ _) => some cs | _ => none) = some cs := hv
          split at hv
          · rename_i cs' t fr hh
            cases hv
            exact ⟨_, t, fr, hh, by rw [hsz]; rfl⟩
          · cases hv
      · split
        · rename_i hg
          subst hg
          refine ⟨?_, trivial⟩
          refine .view .old _ 2 0 (fun _ => .int .i64 m) (fun i hi => ?_) (fun i hi => ?_)
          · have : i = 0 := by simpa [V.cells] using hi
            subst this
            refine ⟨by show (W.cell? _).isSome = true; rw [hml]; rfl, World.block_lt_of_cell? _ _ hml, hml, rfl⟩
          · have : i = 0 := by simpa [V.cells] using hi
            subst this
            exact .int _ _
        · exact ⟨.top _, trivial⟩
end Go.Proofs.YtpoiceejhcpnaaaGreatDoor
end

section
namespace Go.Proofs.YtpoiceejhcpnaaaGreatDoor
open Go.RowKit Go.Hs Go.ChangeShapes Go.WideShapes Go.ChangeAt
open Go.ChangeMaps (open_string shut_string)
set_option maxRecDepth 100000
theorem reads_str (W : World) : Reads Tryz.prog W 9 1 (fun s : List UInt8 => [V.str s]) := by
  refine ⟨by kernel_rfl, fun _ => rfl, fun enc held fuel cs x h => ?_⟩
  obtain ⟨s, rfl, _, _⟩ := DataW.trod_string Tryz.underlying9 h
  exact ⟨s.data.toList, RelC.cons rfl (.str _ _ rfl) RelC.nil⟩
theorem reads_strs (W : World) : Reads Tryz.prog W 25 1 (fun s : Sl (List UInt8) => [encSl .any 1 V.str s]) :=
  Reads.slice Tryz.underlying25 (by kernel_rfl) (by decide) (reads_str W)
theorem reads_xn (W : World) : Reads Tryz.prog W 41 6 (fun n : XN => (encXN n).cells) := by
  refine ⟨by kernel_rfl, fun _ => rfl, fun enc held fuel cs x h => ?_⟩
  obtain ⟨xs, n, _, _, hl, hlen, hf⟩ := DataW.trod_struct Tryz.underlying41 h
  have e43 : Tryz.prog.cellsOf 41 = 6 := by kernel_rfl
  rw [e43] at hl
  have hx : xs.length = 6 := hlen
  obtain ⟨op, h0⟩ := Reads.field (Reads.int (W := W) Tryz.underlying5 (by kernel_rfl)) (i := 0) (hf 0 _ rfl) (by omega)
  obtain ⟨num, h1⟩ := Reads.field (Reads.int (W := W) Tryz.underlying2 (by kernel_rfl)) (i := 1) (hf 1 _ rfl) (by omega)
  obtain ⟨name, h2⟩ := Reads.field (reads_str W) (i := 2) (hf 2 _ rfl) (by omega)
  obtain ⟨a, h3⟩ := Reads.field (Reads.int (W := W) Tryz.underlying3 (by kernel_rfl)) (i := 3) (hf 3 _ rfl) (by omega)
  obtain ⟨b, h4⟩ := Reads.field (Reads.int (W := W) Tryz.underlying3 (by kernel_rfl)) (i := 4) (hf 4 _ rfl) (by omega)
  obtain ⟨c, h5⟩ := Reads.field (Reads.int (W := W) Tryz.underlying3 (by kernel_rfl)) (i := 5) (hf 5 _ rfl) (by omega)
  match cs, hl with
  | [c0, c1, c2, c3, c4, c5], _ => exact ⟨⟨op, num, name, a, b, c⟩, h0.append (h1.append (h2.append (h3.append (h4.append h5))))⟩
theorem reads_xns (W : World) : Reads Tryz.prog W 22 1 (fun s : Sl XN => [encSl .any 6 encXN s]) :=
  Reads.slice Tryz.underlying22 (by kernel_rfl) (by decide) (reads_xn W)
theorem reads_expr (W : World) : Reads Tryz.prog W 24 1 (fun s : Sl XN => (V.agg [encSl .any 6 encXN s]).cells) := by
  refine ⟨by kernel_rfl, fun _ => rfl, fun enc held fuel cs x h => ?_⟩
  obtain ⟨xs, n, _, _, hl, hlen, hf⟩ := DataW.trod_struct Tryz.underlying24 h
  have e24 : Tryz.prog.cellsOf 24 = 1 := by kernel_rfl
  rw [e24] at hl
  have hx : xs.length = 1 := hlen
  obtain ⟨s, h0⟩ := Reads.field (reads_xns W) (i := 0) (hf 0 _ rfl) (by omega)
  match cs, hl with
  | [c0], _ => exact ⟨s, h0⟩
theorem inK_of_wf {k : IntKind} {n : Int} (h : (Lit.int k n).wf = true) : InK k n := by
  simpa [Lit.wf, InK] using h
variable {W : World} {H : Type} {enc : TypeId × Value → H} {b0 : Nat} {v : Value} {d : DataW H} {ps : List MemPlace}
theorem argI (hv : Value.okWide Tryz.prog W .any b0 3 v) (h : DataW.Trod enc Tryz.prog W 0 (fun _ => true) true 3 v d ps) : ∃ x : Int, InK .i64 x ∧ Rel (Cx.ofW W) v (.int .i64 x) := by
  obtain ⟨n, rfl, _, _, hw⟩ := open_int Tryz.underlying3 hv h
  exact ⟨n, inK_of_wf hw, .int _ _⟩
theorem argS (hv : Value.okWide Tryz.prog W .any b0 9 v) (h : DataW.Trod enc Tryz.prog W 0 (fun _ => true) true 9 v d ps) : ∃ x : List UInt8, Rel (Cx.ofW W) v (.str x) := by
  obtain ⟨s, rfl, _, _, _⟩ := open_string Tryz.underlying9 hv h
  exact ⟨_, .str s _ rfl⟩
theorem argL (hv : Value.okWide Tryz.prog W .any b0 25 v) (h : DataW.Trod enc Tryz.prog W 0 (fun _ => true) true 25 v d ps) : ∃ x : Sl (List UInt8), Rel (Cx.ofW W) v (encSl .old 1 V.str x) := by
  obtain ⟨fuel, h⟩ := h
  obtain ⟨x, hx⟩ := (reads_strs W).2.2 enc true fuel _ _ h
  have key : Rel (Cx.ofW W) v (encSl .any 1 V.str x) := by
    unfold Value.okWide at hv
    rw [Tryz.underlying25] at hv
    have hc : v.cells = #[v] := by
      unfold Cell.okWide Cell.ok at hv
      rw [Tryz.underlying25] at hv
      cases v <;> first | rfl | (simp at hv)
    rw [hc] at hx
    exact hx.rel 0 (by simp) (by simp)
  have h2 := key.ofW_old
  refine ⟨x, ?_⟩
  simpa only [go_sem, List.map_cons, List.map_nil] using h2
theorem argX (hv : Value.okWide Tryz.prog W .any b0 24 v) (h : DataW.Trod enc Tryz.prog W 0 (fun _ => true) true 24 v d ps) : ∃ x : Sl XN, Rel (Cx.ofW W) v (.agg [encSl .old 6 encXN x]) := by
  obtain ⟨fuel, h⟩ := h
  obtain ⟨x, hx⟩ := (reads_expr W).2.2 enc true fuel _ _ h
  have key : Rel (Cx.ofW W) v (.agg [encSl .any 6 encXN x]) := by
    unfold Value.okWide at hv
    rw [Tryz.underlying24] at hv
    obtain ⟨cs, rfl, _, _⟩ := hv
    have hx' : RelC (Cx.ofW W) (Value.agg cs).cells.toList [encSl .any 6 encXN x] := hx
    exact Rel.of_aggC hx'
  have h2 := key.ofW_old
  refine ⟨x, ?_⟩
  simpa only [go_sem, recol_xns, List.map_cons, List.map_nil] using h2
theorem own : ownKnob Tryz.prog.godebug = none := by kernel_rfl
theorem laidOut : laidOutB Tryz.prog = true := by kernel_rfl
/-- As the kit's law, what is known of the start handed on. -/
theorem lift_shaped {a : Assume} {C : Checked} {os : Os} {f : FuncId} {fn : Func} {H : Type} {enc : TypeId × Value → H} {s : ChangeSpec} {conds : List PathCond} {apart fresh handsOn again : Bool} {X : World → Array Value → Prop}
    (hX : ∀ (w w' : World) (args : Array Value), w.heap = w'.heap → X w args → X w' args)
    (ownk : ownKnob C.prog.godebug = none) (started : os.Started) (noInit : C.prog.inits.idxOf? f = none) (hfn : C.prog.funcs[f]? = some fn)
    (witness : ∃ (w : World) (tape : Tape) (i : Input), w.os = os ∧ (w.forCall tape i).Shaped C.prog ∧ i.vars = [] ∧ Input.okWide C.prog (w.forCall tape i) .any w.heap.size f i ∧
      ((s.pre enc C.prog fn conds apart (w.forCall tape i).memory i.args ∧ X (w.forCall tape i).memory i.args) ∧ sizedMet enc C.prog fn (OpenSpec.ofChange s) apart (w.forCall tape i).memory i.args) ∧ a.holds C.prog (lone (Frame.enter C.prog f i.args .normal) [] (w.forCall tape i)))
    (contract : ∀ (W : World) (base : Nat) (args : Array Value) (ds gs : List (DataW H)) (before : List MemPlace), W.ShapedOpen C.prog →
      (∀ (j : Nat) t v, fn.params[j]? = some t → args[j]? = some v → Value.okWide C.prog W .any base t v) →
      DataW.Whole enc C.prog fn.params.toList s.vars apart W args.toList ds gs before → X W args →
      Calls C.prog f args W fun e W' => ∃ v, e = .returned v ∧ s.post enc C.prog fn apart fresh handsOn again W args v W') :
    ReturnsInHanded a C os f .any (fun w args => (s.pre enc C.prog fn conds apart w args ∧ X w args) ∧ sizedMet enc C.prog fn (OpenSpec.ofChange s) apart w args) (s.post enc C.prog fn apart fresh handsOn again) := by
  refine returnsInHanded_of_calls ownk started noInit witness ?_
  intro w tape i _ hsh _ hok hpre _
  obtain ⟨_, _, _, fn', hfn', _, _, _, _, hval⟩ := hok
  have e : fn' = fn := Option.some.inj (hfn'.symm.trans hfn)
  subst e
  obtain ⟨⟨⟨ds, gs, before, hw, _⟩, hx⟩, _⟩ := hpre
  have hw' := DataW.Whole.of_heap (w' := w.forCall tape i) (by rfl) hw
  refine (contract (w.forCall tape i) w.heap.size i.args ds gs before hsh hval hw' (hX _ _ _ (by rfl) hx)).mono fun e W' ⟨v, he, hp⟩ => ?_
  subst he
  exact ChangeSpec.post_blind hp
end Go.Proofs.YtpoiceejhcpnaaaGreatDoor
end

section
namespace Go.Proofs.YtpoiceejhcpnaaaGreatDoor.typesKinds
open Go.ChangeShapes Go.WideShapes Go.ChangeAt Go.RowKit Go.Hs
set_option linter.unusedVariables false
set_option maxRecDepth 100000
theorem lifted (os : Os) (started : os.Started) (H : Type) (enc : TypeId × Value → H) :
    ReturnsInHanded {} Tryz.checked os 3 .any (fun w args => (Rows.typesKindsSpec.pre enc Tryz.prog Tryz.f3 Rows.typesKindsRow.domain false w args ∧ laidMet Tryz.prog laidAll w) ∧ sizedMet enc Tryz.prog Tryz.f3 (OpenSpec.ofChange Rows.typesKindsSpec) false w args)
      (Rows.typesKindsSpec.post enc Tryz.prog Tryz.f3 false true false false) := by
  refine lift_shaped (C := Tryz.checked) (X := fun w _ => laidMet Tryz.prog laidAll w) (fun _ _ _ hh h => h.of_heap hh) own started (by kernel_rfl) Tryz.func3
    (ChangeSpec.witness_at (enc := enc) (C := Tryz.checked) (os := os) (X := fun w _ => laidMet Tryz.prog laidAll w) false (laidWorld os) #[.agg #[.slice none 0 0], .slice none 0 0] 8 rfl (by kernel_rfl) (by kernel_rfl) (by kernel_rfl) (by kernel_rfl) (by kernel_rfl) (laidWorld_met os _)) ?_
  intro W base args ds gs before hS hval0 hW hL
  have hval : ∀ (j : Nat) t v, Tryz.f3.params[j]? = some t → args[j]? = some v → Value.okWide Tryz.prog W .any base t v := hval0
  have hW' := hW
  obtain ⟨p, q, hA0, hV, rfl, hfz, hnd⟩ := hW
  have hA : DataW.TrodAll enc Tryz.prog W 0 (fun _ => true) true Tryz.f3.params.toList args.toList ds p := hA0
  rw [Tryz.params3] at hA hval
  obtain ⟨v0, vs0, d0, ds0, p0, q0, hargs, rfl, rfl, h0, r0⟩ := trodAll_cons hA
  obtain ⟨v1, vs1, d1, ds1, p1, q1, rfl, rfl, rfl, h1, r1⟩ := trodAll_cons r0
  obtain ⟨rfl, rfl, rfl⟩ := trodAll_nil r1
  obtain rfl : args = #[v0, v1] := by cases args; simp_all
  obtain ⟨rfl, rfl⟩ := trodVars_none hV
  obtain ⟨x0, hx0⟩ := argX (hval 0 24 v0 rfl rfl) h0
  obtain ⟨x1, hx1⟩ := argL (hval 1 25 v1 rfl rfl) h1
  have hR : RelA (Cx.ofW W) #[v0, v1] [.agg [encSl .old 6 encXN x0], encSl .old 1 V.str x1] := by
    refine ⟨rfl, fun i k1 k2 => ?_⟩
    match i, k1 with
    | 0, _ => exact hx0
    | 1, _ => exact hx1
  obtain ⟨m, hG⟩ := laid_G hL hS
  refine (Spec.toCallsG (lTypesKinds (gE m) (gE_ok m) (gE_old m) x0 x1) hG hR).mono ?_
  rintro e W' ⟨c, v, H', Y, rfl, hr, rfl, hB⟩
  obtain rfl := hr.bool_inv
  have hlt0 : ∀ x ∈ p0, x.block < W.heap.size := fun x hx => by simpa using hW'.lt x (by simp [hx])
  have hlt1 : ∀ x ∈ p1, x.block < W.heap.size := fun x hx => by simpa using hW'.lt x (by simp [hx])
  have k0 := Below.trod laidOut (by kernel_rfl) (of_decide_eq_true (by kernel_rfl)) h0 hB hlt0
  have k1 := Below.trod laidOut (by kernel_rfl) (of_decide_eq_true (by kernel_rfl)) h1 hB hlt1
  refine ⟨_, rfl, _, _, _, [], p0 ++ (p1 ++ []), [], hW', ?_, ?_, rfl, hB.frame _, fun h => by cases h⟩
  · exact trodAll_cons_mk (shut_bool Tryz.underlying4 _) trodAll_mk0
  · exact trodAll_cons_mk k0 (trodAll_cons_mk k1 trodAll_mk0)
theorem over : Rows.typesKindsRow.holds Tryz.pinned (OpenSpec.ofChange Rows.typesKindsSpec) :=
  OpenClaim.holds_of_wide 3 Tryz.f3 rfl rfl rfl rfl rfl rfl rfl ⟨rfl, rfl, rfl, rfl, rfl⟩ rfl rfl rfl rfl rfl (by kernel_rfl) Tryz.func3 (by kernel_rfl)
    (of_decide_eq_true (by kernel_rfl)) (by unfold Func.isWrapper; first | (rw [if_pos (by decide +kernel)]; kernel_rfl) | (rw [if_neg (by decide +kernel)]; exact ⟨rfl, rfl⟩))
    (fun os started H enc _ => lifted os started H enc)
theorem wants (j : Nat) (t : TypeId) (h : Tryz.f3.params[j]? = some t) : Tryz.prog.wantsStandIn t = false := by
  rw [Tryz.params3] at h
  match j, h with
  | 0, h => exact (Option.some.inj h : 24 = t) ▸ (show Tryz.prog.wantsStandIn 24 = false by kernel_rfl)
  | 1, h => exact (Option.some.inj h : 25 = t) ▸ (show Tryz.prog.wantsStandIn 25 = false by kernel_rfl)
  | j + 2, h => cases h
/-- The statement. -/
theorem proved : Rows.TypesKindsCardSaid :=
  Claim7.holds_tied_plain_at .later [] [.data, .data, .data, .data, .sentinel, .sentinel, .widerDeep, .pinned] true (true, "c61799da9672bb93df461c861db7a63f9a2dff05b3c1b7d4d17194ccce321fe3") true
    over (fun _ h => by cases h) (by kernel_rfl) (fun _ h => by cases h) typesKinds_row_tie rfl ⟨rfl, rfl⟩ (by kernel_rfl) rfl
    (fun f fn hf hfn => by
      obtain rfl : f = 3 := Option.some.inj ((show Tryz.prog.funcNamed "hopscotch/hopscotchlaw09.TypesKinds" = some 3 by kernel_rfl).symm.trans hf) |>.symm
      obtain rfl : fn = Tryz.f3 := (Option.some.inj (Tryz.func3.symm.trans hfn)).symm
      exact ⟨by kernel_rfl, fun j t ht => wants j t ht⟩)
    (by kernel_rfl)
#print axioms proved
end Go.Proofs.YtpoiceejhcpnaaaGreatDoor.typesKinds
end
