/- For every input EExprBackS returns true, and its arguments read as before. No condition. -/
/- Part 44 of the proof of a statement of seat YtpoiceejhcpnaaaGreatDoor: HsEExprBackS. -/
import Derived.Test.YtpoiceejhcpnaaaGreatDoorPart41
import Derived.Test.YtpoiceejhcpnaaaGreatDoorPart43
import Derived.Test.YtpoiceejhcpnaaaGreatDoorTie
import Derived.Test.YtpoiceejhcpnaaaGreatDoorCards
set_option linter.unusedSimpArgs false
set_option linter.unusedVariables false
section
namespace Go.Proofs.YtpoiceejhcpnaaaGreatDoor.exprBack
open Go.ChangeShapes Go.WideShapes Go.ChangeAt Go.RowKit Go.Hs
set_option linter.unusedVariables false
set_option maxRecDepth 100000
theorem lifted (os : Os) (started : os.Started) (H : Type) (enc : TypeId × Value → H) :
  ReturnsInHanded {} Tryz.checked os 11 .any (fun w args => (Rows.exprBackSpec.pre enc Tryz.prog Tryz.f11 Rows.exprBackRow.domain false w args ∧ laidMet Tryz.prog laidAll w) ∧ sizedMet enc Tryz.prog Tryz.f11 (OpenSpec.ofChange Rows.exprBackSpec) false w args)
   (Rows.exprBackSpec.post enc Tryz.prog Tryz.f11 false true false false) := by
 refine lift_shaped (C := Tryz.checked) (X := fun w _ => laidMet Tryz.prog laidAll w) (fun _ _ _ hh h => h.of_heap hh) own started (by kernel_rfl) Tryz.func11
  (ChangeSpec.witness_at (enc := enc) (C := Tryz.checked) (os := os) (X := fun w _ => laidMet Tryz.prog laidAll w) false (laidWorld os) #[.agg #[.slice none 0 0], .agg #[.slice none 0 0], .string ⟨#[]⟩] 8 rfl (by kernel_rfl) (by kernel_rfl) (by kernel_rfl) (by kernel_rfl) (by kernel_rfl) (laidWorld_met os _)) ?_
 intro W base args ds gs before hS hval0 hW hL
 have hval : ∀ (j : Nat) t v, Tryz.f11.params[j]? = some t → args[j]? = some v → Value.okWide Tryz.prog W .any base t v := hval0
 have hW' := hW
 obtain ⟨p, q, hA0, hV, rfl, hfz, hnd⟩ := hW
 have hA : DataW.TrodAll enc Tryz.prog W 0 (fun _ => true) true Tryz.f11.params.toList args.toList ds p := hA0
 rw [Tryz.params11] at hA hval
 obtain ⟨v0, vs0, d0, ds0, p0, q0, hargs, rfl, rfl, h0, r0⟩ := trodAll_cons hA
 obtain ⟨v1, vs1, d1, ds1, p1, q1, rfl, rfl, rfl, h1, r1⟩ := trodAll_cons r0
 obtain ⟨v2, vs2, d2, ds2, p2, q2, rfl, rfl, rfl, h2, r2⟩ := trodAll_cons r1
 obtain ⟨rfl, rfl, rfl⟩ := trodAll_nil r2
 obtain rfl : args = #[v0, v1, v2] := by cases args; simp_all
 obtain ⟨rfl, rfl⟩ := trodVars_none hV
 obtain ⟨x0, i0, hx0⟩ := argE (hval 0 24 v0 rfl rfl) h0
 obtain ⟨x1, i1, hx1⟩ := argE (hval 1 24 v1 rfl rfl) h1
 obtain ⟨x2, hx2⟩ := argS (hval 2 9 v2 rfl rfl) h2
 have hR : RelA (Cx.ofW W) #[v0, v1, v2] [.agg [encSl .old 6 encXN x0], .agg [encSl .old 6 encXN x1], V.str x2] := by
  refine ⟨rfl, fun i k1 k2 => ?_⟩
  match i, k1 with
  | 0, _ => exact hx0
  | 1, _ => exact hx1
  | 2, _ => exact hx2
 obtain ⟨m, hG⟩ := laid_G hL hS
 refine (Spec.toCallsG (lExprBack (gE m) (gE_ok m) x0 x1 x2 (fun n hn => (i0 n hn).2) (fun n hn => (i1 n hn).2)) hG hR).mono ?_
 rintro e W' ⟨c, v, H', Y, rfl, hr, rfl, hB⟩
 obtain rfl := hr.bool_inv
 have hlt0 : ∀ x ∈ p0, x.block < W.heap.size := fun x hx => by simpa using hW'.lt x (by simp [hx])
 have hlt1 : ∀ x ∈ p1, x.block < W.heap.size := fun x hx => by simpa using hW'.lt x (by simp [hx])
 have hlt2 : ∀ x ∈ p2, x.block < W.heap.size := fun x hx => by simpa using hW'.lt x (by simp [hx])
 have k0 := Below.trod laidOut (by kernel_rfl) (of_decide_eq_true (by kernel_rfl)) h0 hB hlt0
 have k1 := Below.trod laidOut (by kernel_rfl) (of_decide_eq_true (by kernel_rfl)) h1 hB hlt1
 have k2 := Below.trod laidOut (by kernel_rfl) (of_decide_eq_true (by kernel_rfl)) h2 hB hlt2
 refine ⟨_, rfl, _, _, _, [], p0 ++ (p1 ++ (p2 ++ [])), [], hW', ?_, ?_, rfl, hB.frame _, fun h => by cases h⟩
 ·exact trodAll_cons_mk (shut_bool Tryz.underlying4 _) trodAll_mk0
 ·exact trodAll_cons_mk k0 (trodAll_cons_mk k1 (trodAll_cons_mk k2 trodAll_mk0))
theorem over : Rows.exprBackRow.holds Tryz.pinned (OpenSpec.ofChange Rows.exprBackSpec) :=
 OpenClaim.holds_of_wide 11 Tryz.f11 rfl rfl rfl rfl rfl rfl rfl ⟨rfl, rfl, rfl, rfl, rfl⟩ rfl rfl rfl rfl rfl (by kernel_rfl) Tryz.func11 (by kernel_rfl)
  (of_decide_eq_true (by kernel_rfl)) (by unfold Func.isWrapper; first | (rw [if_pos (by decide +kernel)]; kernel_rfl) | (rw [if_neg (by decide +kernel)]; exact ⟨rfl, rfl⟩))
  (fun os started H enc _ => lifted os started H enc)
theorem wants (j : Nat) (t : TypeId) (h : Tryz.f11.params[j]? = some t) : Tryz.prog.wantsStandIn t = false := by
 rw [Tryz.params11] at h
 match j, h with
 | 0, h => exact (Option.some.inj h : 24 = t) ▸ (show Tryz.prog.wantsStandIn 24 = false by kernel_rfl)
 | 1, h => exact (Option.some.inj h : 24 = t) ▸ (show Tryz.prog.wantsStandIn 24 = false by kernel_rfl)
 | 2, h => exact (Option.some.inj h : 9 = t) ▸ (show Tryz.prog.wantsStandIn 9 = false by kernel_rfl)
 | j + 3, h => cases h
theorem proved : Rows.ExprBackCardSaid :=
 Claim7.holds_tied_plain_at .later [] [.data, .data, .data, .data, .sentinel, .sentinel, .widerDeep, .pinned] true (true, "c61799da9672bb93df461c861db7a63f9a2dff05b3c1b7d4d17194ccce321fe3") true
  over (fun _ h => by cases h) (by kernel_rfl) (fun _ h => by cases h) exprBack_row_tie rfl ⟨rfl, rfl⟩ (by kernel_rfl) rfl
  (fun f fn hf hfn => by
   obtain rfl : f = 11 := Option.some.inj ((show Tryz.prog.funcNamed "hopscotch/hopscotchlaw08.ExprBack" = some 11 by kernel_rfl).symm.trans hf) |>.symm
   obtain rfl : fn = Tryz.f11 := (Option.some.inj (Tryz.func11.symm.trans hfn)).symm
   exact ⟨by kernel_rfl, fun j t ht => wants j t ht⟩)
  (by kernel_rfl)
#print axioms proved
end Go.Proofs.YtpoiceejhcpnaaaGreatDoor.exprBack
end
