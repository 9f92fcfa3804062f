/- For every input StepsAll returns true, and its arguments read as before. No condition. -/
/- Part 28 of the proof of a statement of seat Ythlkacbgaclkkaa: HsStepsAll. -/
import Derived.Test.YthlkacbgaclkkaaPart26
import Derived.Test.YthlkacbgaclkkaaPart27
import Derived.Test.YthlkacbgaclkkaaRows
import Derived.WalkKit
import Derived.ProofKit
import Derived.OpenShut
set_option linter.unusedSimpArgs false
set_option linter.unusedVariables false
section
namespace Go.Hs
open Go.Proofs Go.Proofs.Ythlkacbgaclkkaa
set_option maxRecDepth 100000
theorem Reads.field {P : Program} {W : World} {α H : Type} {t : TypeId} {f : α → List V} (hr : Reads P W t 1 f) {enc : TypeId × Value → H} {held : Bool} {i j n : Nat} {cs : List Value} {xs : List (DataW H × List MemPlace)}
    (h : DataW.trod enc P W 0 (fun _ => true) held n t ((cs.drop i).take (P.cellsOf t)) = xs[j]?) (hj : j < xs.length) : ∃ a, RelC (Cx.ofW W) ((cs.drop i).take 1) (f a) := by
  rw [hr.1, List.getElem?_eq_getElem hj] at h
  exact hr.2.2 enc held n _ _ h
theorem reads_kids (W : World) : Reads Try.prog W 34 1 (fun s : Sl Int => [encSl .any 1 (V.int .i64) s]) :=
  Reads.slice Try.underlying34 (by kernel_rfl) (by decide) (Reads.int Try.underlying3 (by kernel_rfl))
theorem reads_nd (W : World) : Reads Try.prog W 43 3 (fun n : Nd => (encNd .any n).cells) := by
  refine ⟨by kernel_rfl, fun _ => rfl, fun enc held fuel cs x h => ?_⟩
  obtain ⟨xs, n, _, _, hl, hlen, hf⟩ := DataW.trod_struct Try.underlying43 h
  have e43 : Try.prog.cellsOf 43 = 3 := by kernel_rfl
  rw [e43] at hl
  have hx : xs.length = 3 := hlen
  obtain ⟨op, h0⟩ := Reads.field (Reads.int (W := W) Try.underlying5 (by kernel_rfl)) (i := 0) (hf 0 _ rfl) (by omega)
  obtain ⟨pl, h1⟩ := Reads.field (Reads.int (W := W) Try.underlying3 (by kernel_rfl)) (i := 1) (hf 1 _ rfl) (by omega)
  obtain ⟨ks, h2⟩ := Reads.field (reads_kids W) (i := 2) (hf 2 _ rfl) (by omega)
  match cs, hl with
  | [c0, c1, c2], _ => exact ⟨⟨op, pl, ks⟩, h0.append (h1.append h2)⟩
theorem reads_nodes (W : World) : Reads Try.prog W 22 1 (fun s : Sl Nd => [encSl .any 3 (encNd .any) s]) :=
  Reads.slice Try.underlying22 (by kernel_rfl) (by decide) (reads_nd W)
theorem reads_tree (W : World) : Reads Try.prog W 24 1 (fun s : Sl Nd => (encTree .any .any s).cells) := by
  refine ⟨by kernel_rfl, fun _ => rfl, fun enc held fuel cs x h => ?_⟩
  obtain ⟨xs, n, _, _, hl, hlen, hf⟩ := DataW.trod_struct Try.underlying24 h
  have e24 : Try.prog.cellsOf 24 = 1 := by kernel_rfl
  rw [e24] at hl
  have hx : xs.length = 1 := hlen
  obtain ⟨s, h0⟩ := Reads.field (reads_nodes W) (i := 0) (hf 0 _ rfl) (by omega)
  match cs, hl with
  | [c0], _ => exact ⟨s, h0⟩
/-- An argument that is a tree. -/
theorem arg_tree {W : World} {H : Type} {enc : TypeId × Value → H} {b0 : Nat} {v : Value} {d : DataW H} {ps : List MemPlace} (hv : Value.okWide Try.prog W .any b0 24 v) (h : DataW.Trod enc Try.prog W 0 (fun _ => true) true 24 v d ps) :
    ∃ t : Sl Nd, Rel (Cx.ofW W) v (encTree .any .any t) := by
  obtain ⟨fuel, h⟩ := h
  obtain ⟨t, ht⟩ := (reads_tree W).2.2 enc true fuel _ _ h
  unfold Value.okWide at hv
  rw [Try.underlying24] at hv
  obtain ⟨cs, rfl, _, _⟩ := hv
  refine ⟨t, .agg cs _ ?_ ?_ ?_⟩
  · have := ht.len
    rw [show (Value.agg cs).cells.toList = cs.toList from rfl, Array.length_toList] at this
    exact this
  · intro x hx
    exact ht.one x (by simpa [Value.cells] using hx)
  · intro i h1 h2
    have := ht.rel i (by simpa [Value.cells] using h1) h2
    rw [← Array.getElem_toList]
    exact this
theorem arg_ints {W : World} {H : Type} {enc : TypeId × Value → H} {b0 : Nat} {v : Value} {d : DataW H} {ps : List MemPlace} (hv : Value.okWide Try.prog W .any b0 34 v) (h : DataW.Trod enc Try.prog W 0 (fun _ => true) true 34 v d ps) :
    ∃ s : Sl Int, Rel (Cx.ofW W) v (encSl .any 1 (V.int .i64) s) := by
  obtain ⟨fuel, h⟩ := h
  obtain ⟨s, hs⟩ := (reads_kids W).2.2 enc true fuel _ _ h
  unfold Value.okWide at hv
  rw [Try.underlying34] at hv
  have hc : v.cells = #[v] := by
    unfold Cell.okWide Cell.ok at hv
    rw [Try.underlying34] at hv
    cases v <;> first | rfl | (simp at hv)
  rw [hc] at hs
  exact ⟨s, hs.rel 0 (by simp) (by simp)⟩
def gTop : Nat → V := fun _ => .top
theorem gTop_ok : GOk gTop := fun _ => ⟨rfl, .top⟩
/-- From a contract to the call itself. -/
theorem Spec.toCalls {P : Program} {W : World} {f : FuncId} {args : List V} {cargs : Array Value} {K : V → Heap → Prop} (h : Spec P gTop f args hNone K) (hR : RelA (Cx.ofW W) cargs args) :
    Calls P f cargs W (fun e w' => ∃ c v H' Y, e = .returned c ∧ Rel Y c v ∧ K v H' ∧ RowKit.Below W.heap.size W w') := by
  refine (h (Cx.ofW W) cargs rfl (inv_ofW W) (fun _ => .top _) hR).mono ?_
  rintro e w' ⟨c, v, H', Y, rfl, rfl, hg, hr, hk⟩
  exact ⟨c, v, H', Y, rfl, hr, hk, hg.kp.below (by rintro b ⟨o, c, g, fz, cs, bs, ho, _⟩; simp [hNone] at ho)⟩
end Go.Hs
namespace Go.Proofs.Ythlkacbgaclkkaa.stepsAll
open Go.ChangeShapes Go.WideShapes Go.ChangeAt Go.RowKit Go.Hs
set_option linter.unusedVariables false
set_option maxRecDepth 100000
theorem own : ownKnob Try.prog.godebug = none := by kernel_rfl
theorem laid : laidOutB Try.prog = true := by kernel_rfl
theorem lifted (os : Os) (started : os.Started) (H : Type) (enc : TypeId × Value → H) :
    ReturnsInHanded {} Try.checked os 4 .any (Rows.stepsAllSpec.pre6 enc Try.prog Try.f4 Rows.stepsAllRow.domain false) (Rows.stepsAllSpec.post enc Try.prog Try.f4 false true false false) := by
  refine returnsInHanded_of_change (C := Try.checked) own started (by kernel_rfl) Try.func4
    (ChangeSpec.witness6 (enc := enc) (C := Try.checked) false ⟨#[], #[.agg #[.slice none 0 0], .slice none 0 0], []⟩ 8 (by kernel_rfl) (by kernel_rfl) (by kernel_rfl) (by kernel_rfl)) ?_
  intro W base args ds gs before hval0 hW hcnd _
  have hval : ∀ (j : Nat) t v, Try.f4.params[j]? = some t → args[j]? = some v → Value.okWide Try.prog W .any base t v := hval0
  have hW' := hW
  obtain ⟨p, q, hA0, hV, rfl, hfz, hnd⟩ := hW
  have hA : DataW.TrodAll enc Try.prog W 0 (fun _ => true) true Try.f4.params.toList args.toList ds p := hA0
  rw [Try.params4] at hA hval
  obtain ⟨v0, vs0, d0, ds0, p0, q0, hargs, rfl, rfl, h0, r0⟩ := trodAll_cons hA
  obtain ⟨v1, vs1, d1, ds1, p1, q1, rfl, rfl, rfl, h1, r1⟩ := trodAll_cons r0
  obtain ⟨rfl, rfl, rfl⟩ := trodAll_nil r1
  obtain rfl : args = #[v0, v1] := by cases args; simp_all
  obtain ⟨rfl, rfl⟩ := trodVars_none hV
  obtain ⟨t, ht⟩ := arg_tree (hval 0 24 v0 rfl rfl) h0
  obtain ⟨s, hs⟩ := arg_ints (hval 1 34 v1 rfl rfl) h1
  have hR : RelA (Cx.ofW W) #[v0, v1] [encTree .any .any t, encSl .any 1 (V.int .i64) s] := by
    refine ⟨rfl, fun i k1 k2 => ?_⟩
    match i, k1 with
    | 0, _ => exact ht
    | 1, _ => exact hs
  refine (Spec.toCalls (stepsAll_spec gTop gTop_ok .any .any .any t s) hR).mono ?_
  rintro e W' ⟨c, v, H', Y, rfl, hr, rfl, hB⟩
  obtain rfl := hr.bool_inv
  have hlt0 : ∀ x ∈ p0, x.block < W.heap.size := fun x hx => by simpa using hW'.lt x (by simp [hx])
  have hlt1 : ∀ x ∈ p1, x.block < W.heap.size := fun x hx => by simpa using hW'.lt x (by simp [hx])
  have k0 := Below.trod laid (by kernel_rfl) (of_decide_eq_true (by kernel_rfl)) h0 hB hlt0
  have k1 := Below.trod laid (by kernel_rfl) (of_decide_eq_true (by kernel_rfl)) h1 hB hlt1
  refine ⟨_, rfl, _, _, _, [], p0 ++ (p1 ++ []), [], hW', ?_, ?_, rfl, hB.frame _, fun h => by cases h⟩
  · exact trodAll_cons_mk (shut_bool Try.underlying4 _) trodAll_mk0
  · exact trodAll_cons_mk k0 (trodAll_cons_mk k1 trodAll_mk0)
theorem over : Rows.stepsAllRow.holds Try.pinned (OpenSpec.ofChange Rows.stepsAllSpec) :=
  OpenClaim.holds_of_wide 4 Try.f4 rfl rfl rfl rfl rfl rfl rfl ⟨rfl, rfl, rfl, rfl, rfl⟩ rfl rfl rfl rfl rfl (by kernel_rfl) Try.func4 (by kernel_rfl)
    (of_decide_eq_true (by kernel_rfl)) (by unfold Func.isWrapper; first | (rw [if_pos (by decide +kernel)]; kernel_rfl) | (rw [if_neg (by decide +kernel)]; exact ⟨rfl, rfl⟩))
    (fun os started H enc _ => lifted os started H enc)
/-- The statement. -/
theorem proved : Rows.StepsAllSaid := over
#print axioms proved
end Go.Proofs.Ythlkacbgaclkkaa.stepsAll
end
