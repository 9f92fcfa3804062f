/- For every input StepsTrees returns true, and its arguments read as before. No condition. -/
/- Part 33 of the proof of a statement of seat Ythlkacbgaclkkaa: HsStepsReads HsStepsTrees. -/
import Derived.Test.YthlkacbgaclkkaaPart25
import Derived.Test.YthlkacbgaclkkaaPart32
import Derived.Test.YthlkacbgaclkkaaPart19
import Derived.Test.YthlkacbgaclkkaaPart31
import Derived.Test.YthlkacbgaclkkaaRows
import Derived.WalkKit
import Derived.ProofKit
import Derived.OpenShut
set_option linter.unusedSimpArgs false
set_option linter.unusedVariables false
section
namespace Go.Hs
open Go.Proofs
set_option maxRecDepth 100000
theorem reads_kids (W : World) : Reads Try.prog W 34 1 (fun s : Sl Int => [encSl .any 1 (V.int .i64) s]) :=
  Reads.slice Try.underlying34 (by kernel_rfl) (by decide) (Reads.int Try.underlying3 (by kernel_rfl))
theorem reads_nd (W : World) : Reads Try.prog W 43 3 (fun n : Nd => (encNd .any n).cells) := by
  refine ⟨by kernel_rfl, fun _ => rfl, fun enc held fuel cs x h => ?_⟩
  obtain ⟨xs, n, _, _, hl, hlen, hf⟩ := DataW.trod_struct Try.underlying43 h
  have e43 : Try.prog.cellsOf 43 = 3 := by kernel_rfl
  rw [e43] at hl
  have hx : xs.length = 3 := hlen
  obtain ⟨op, h0⟩ := Reads.field (Reads.int (W := W) Try.underlying5 (by kernel_rfl)) (i := 0) (hf 0 _ rfl) (by omega)
  obtain ⟨pl, h1⟩ := Reads.field (Reads.int (W := W) Try.underlying3 (by kernel_rfl)) (i := 1) (hf 1 _ rfl) (by omega)
  obtain ⟨ks, h2⟩ := Reads.field (reads_kids W) (i := 2) (hf 2 _ rfl) (by omega)
  match cs, hl with
  | [c0, c1, c2], _ => exact ⟨⟨op, pl, ks⟩, h0.append (h1.append h2)⟩
theorem reads_nodes (W : World) : Reads Try.prog W 22 1 (fun s : Sl Nd => [encSl .any 3 (encNd .any) s]) :=
  Reads.slice Try.underlying22 (by kernel_rfl) (by decide) (reads_nd W)
theorem reads_tree (W : World) : Reads Try.prog W 24 1 (fun s : Sl Nd => (encTree .any .any s).cells) := by
  refine ⟨by kernel_rfl, fun _ => rfl, fun enc held fuel cs x h => ?_⟩
  obtain ⟨xs, n, _, _, hl, hlen, hf⟩ := DataW.trod_struct Try.underlying24 h
  have e24 : Try.prog.cellsOf 24 = 1 := by kernel_rfl
  rw [e24] at hl
  have hx : xs.length = 1 := hlen
  obtain ⟨s, h0⟩ := Reads.field (reads_nodes W) (i := 0) (hf 0 _ rfl) (by omega)
  match cs, hl with
  | [c0], _ => exact ⟨s, h0⟩
theorem reads_trees (W : World) : Reads Try.prog W 47 1 (fun s : Sl (Sl Nd) => [encSl .any 1 (encTree .any .any) s]) :=
  Reads.slice Try.underlying47 (by kernel_rfl) (by decide) (reads_tree W)
theorem reads_int (W : World) : Reads Try.prog W 3 1 (fun n : Int => [V.int .i64 n]) := Reads.int Try.underlying3 (by kernel_rfl)
theorem reads_u8 (W : World) : Reads Try.prog W 5 1 (fun n : Int => [V.int .u8 n]) := Reads.int Try.underlying5 (by kernel_rfl)
end Go.Hs
end

section
namespace Go.Hs
open Go.Proofs Go.Proofs.Ythlkacbgaclkkaa
set_option maxRecDepth 100000
section
open Go.Hs
theorem stepsTrees_arg0 {W : World} {H : Type} {enc : TypeId × Value → H} {b0 : Nat} {v : Value} {d : DataW H} {ps : List MemPlace} (hv : Value.okWide Try.prog W .any b0 47 v) (h : DataW.Trod enc Try.prog W 0 (fun _ => true) true 47 v d ps) :
    ∃ x : Sl (Sl Nd), Rel (Cx.ofW W) v (encSl .old 1 (encTree .old .old) x) := by
  obtain ⟨fuel, h⟩ := h
  obtain ⟨x, hx⟩ := (reads_trees W).2.2 enc true fuel _ _ h
  have key : Rel (Cx.ofW W) v (encSl .any 1 (encTree .any .any) x) := by
    unfold Value.okWide at hv
    rw [Try.underlying47] at hv
    have hc : v.cells = #[v] := by
      unfold Cell.okWide Cell.ok at hv
      rw [Try.underlying47] at hv
      cases v <;> first | rfl | (simp at hv)
    rw [hc] at hx
    exact hx.rel 0 (by simp) (by simp)
  have h2 := key.ofW_old
  refine ⟨x, ?_⟩
  simpa only [go_sem, List.map_cons, List.map_nil] using h2
theorem stepsTrees_arg1 {W : World} {H : Type} {enc : TypeId × Value → H} {b0 : Nat} {v : Value} {d : DataW H} {ps : List MemPlace} (hv : Value.okWide Try.prog W .any b0 5 v) (h : DataW.Trod enc Try.prog W 0 (fun _ => true) true 5 v d ps) :
    ∃ x : Int, Rel (Cx.ofW W) v (V.int .u8 x) := by
  obtain ⟨fuel, h⟩ := h
  obtain ⟨x, hx⟩ := (reads_u8 W).2.2 enc true fuel _ _ h
  have key : Rel (Cx.ofW W) v (V.int .u8 x) := by
    unfold Value.okWide at hv
    rw [Try.underlying5] at hv
    have hc : v.cells = #[v] := by
      unfold Cell.okWide Cell.ok at hv
      rw [Try.underlying5] at hv
      cases v <;> first | rfl | (simp at hv)
    rw [hc] at hx
    exact hx.rel 0 (by simp) (by simp)
  have h2 := key.ofW_old
  refine ⟨x, ?_⟩
  simpa only [go_sem, List.map_cons, List.map_nil] using h2
theorem stepsTrees_arg2 {W : World} {H : Type} {enc : TypeId × Value → H} {b0 : Nat} {v : Value} {d : DataW H} {ps : List MemPlace} (hv : Value.okWide Try.prog W .any b0 3 v) (h : DataW.Trod enc Try.prog W 0 (fun _ => true) true 3 v d ps) :
    ∃ x : Int, Rel (Cx.ofW W) v (V.int .i64 x) := by
  obtain ⟨fuel, h⟩ := h
  obtain ⟨x, hx⟩ := (reads_int W).2.2 enc true fuel _ _ h
  have key : Rel (Cx.ofW W) v (V.int .i64 x) := by
    unfold Value.okWide at hv
    rw [Try.underlying3] at hv
    have hc : v.cells = #[v] := by
      unfold Cell.okWide Cell.ok at hv
      rw [Try.underlying3] at hv
      cases v <;> first | rfl | (simp at hv)
    rw [hc] at hx
    exact hx.rel 0 (by simp) (by simp)
  have h2 := key.ofW_old
  refine ⟨x, ?_⟩
  simpa only [go_sem, List.map_cons, List.map_nil] using h2
end
end Go.Hs
namespace Go.Proofs.Ythlkacbgaclkkaa.stepsTrees
open Go.ChangeShapes Go.WideShapes Go.ChangeAt Go.RowKit Go.Hs
set_option linter.unusedVariables false
set_option maxRecDepth 100000
theorem own : ownKnob Try.prog.godebug = none := by kernel_rfl
theorem laid : laidOutB Try.prog = true := by kernel_rfl
theorem lifted (os : Os) (started : os.Started) (H : Type) (enc : TypeId × Value → H) :
    ReturnsInHanded {} Try.checked os 5 .any (Rows.stepsTreesSpec.pre6 enc Try.prog Try.f5 Rows.stepsTreesRow.domain false) (Rows.stepsTreesSpec.post enc Try.prog Try.f5 false true false false) := by
  refine returnsInHanded_of_change (C := Try.checked) own started (by kernel_rfl) Try.func5
    (ChangeSpec.witness6 (enc := enc) (C := Try.checked) false ⟨#[], #[.slice none 0 0, .int .u8 0, .int .i64 0], []⟩ 8 (by kernel_rfl) (by kernel_rfl) (by kernel_rfl) (by kernel_rfl)) ?_
  intro W base args ds gs before hval0 hW hcnd _
  have hval : ∀ (j : Nat) t v, Try.f5.params[j]? = some t → args[j]? = some v → Value.okWide Try.prog W .any base t v := hval0
  have hW' := hW
  obtain ⟨p, q, hA0, hV, rfl, hfz, hnd⟩ := hW
  have hA : DataW.TrodAll enc Try.prog W 0 (fun _ => true) true Try.f5.params.toList args.toList ds p := hA0
  rw [Try.params5] at hA hval
  obtain ⟨v0, vs0, d0, ds0, p0, q0, hargs, rfl, rfl, h0, r0⟩ := trodAll_cons hA
  obtain ⟨v1, vs1, d1, ds1, p1, q1, rfl, rfl, rfl, h1, r1⟩ := trodAll_cons r0
  obtain ⟨v2, vs2, d2, ds2, p2, q2, rfl, rfl, rfl, h2, r2⟩ := trodAll_cons r1
  obtain ⟨rfl, rfl, rfl⟩ := trodAll_nil r2
  obtain rfl : args = #[v0, v1, v2] := by cases args; simp_all
  obtain ⟨rfl, rfl⟩ := trodVars_none hV
  obtain ⟨x0, hx0⟩ := stepsTrees_arg0 (hval 0 47 v0 rfl rfl) h0
  obtain ⟨x1, hx1⟩ := stepsTrees_arg1 (hval 1 5 v1 rfl rfl) h1
  obtain ⟨x2, hx2⟩ := stepsTrees_arg2 (hval 2 3 v2 rfl rfl) h2
  have hR : RelA (Cx.ofW W) #[v0, v1, v2] [encSl .old 1 (encTree .old .old) x0, V.int .u8 x1, V.int .i64 x2] := by
    refine ⟨rfl, fun i k1 k2 => ?_⟩
    match i, k1 with
    | 0, _ => exact hx0
    | 1, _ => exact hx1
    | 2, _ => exact hx2
  refine (Spec.toCalls (stepsTrees_spec gTop gTop_ok gTop_old x0 x1 x2) hR).mono ?_
  rintro e W' ⟨c, v, H', Y, rfl, hr, rfl, hB⟩
  obtain rfl := hr.bool_inv
  have hlt0 : ∀ x ∈ p0, x.block < W.heap.size := fun x hx => by simpa using hW'.lt x (by simp [hx])
  have hlt1 : ∀ x ∈ p1, x.block < W.heap.size := fun x hx => by simpa using hW'.lt x (by simp [hx])
  have hlt2 : ∀ x ∈ p2, x.block < W.heap.size := fun x hx => by simpa using hW'.lt x (by simp [hx])
  have k0 := Below.trod laid (by kernel_rfl) (of_decide_eq_true (by kernel_rfl)) h0 hB hlt0
  have k1 := Below.trod laid (by kernel_rfl) (of_decide_eq_true (by kernel_rfl)) h1 hB hlt1
  have k2 := Below.trod laid (by kernel_rfl) (of_decide_eq_true (by kernel_rfl)) h2 hB hlt2
  refine ⟨_, rfl, _, _, _, [], p0 ++ (p1 ++ (p2 ++ [])), [], hW', ?_, ?_, rfl, hB.frame _, fun h => by cases h⟩
  · exact trodAll_cons_mk (shut_bool Try.underlying4 _) trodAll_mk0
  · exact trodAll_cons_mk k0 (trodAll_cons_mk k1 (trodAll_cons_mk k2 trodAll_mk0))
theorem over : Rows.stepsTreesRow.holds Try.pinned (OpenSpec.ofChange Rows.stepsTreesSpec) :=
  OpenClaim.holds_of_wide 5 Try.f5 rfl rfl rfl rfl rfl rfl rfl ⟨rfl, rfl, rfl, rfl, rfl⟩ rfl rfl rfl rfl rfl (by kernel_rfl) Try.func5 (by kernel_rfl)
    (of_decide_eq_true (by kernel_rfl)) (by unfold Func.isWrapper; first | (rw [if_pos (by decide +kernel)]; kernel_rfl) | (rw [if_neg (by decide +kernel)]; exact ⟨rfl, rfl⟩))
    (fun os started H enc _ => lifted os started H enc)
/-- The statement. -/
theorem proved : Rows.StepsTreesSaid := over
#print axioms proved
end Go.Proofs.Ythlkacbgaclkkaa.stepsTrees
end
