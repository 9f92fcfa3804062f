/- For every input ETypesKnownS returns true, and its arguments read as before. No condition. -/
/- Part 45 of the proof of a statement of seat YtpoiceejhcpnaaaGreatDoor: HsETypesKnownS. -/
import Derived.Test.YtpoiceejhcpnaaaGreatDoorPart44
import Derived.Test.YtpoiceejhcpnaaaGreatDoorTie
import Derived.Test.YtpoiceejhcpnaaaGreatDoorCards
set_option linter.unusedSimpArgs false
set_option linter.unusedVariables false
section
namespace Go.Proofs.YtpoiceejhcpnaaaGreatDoor.typesKnown
open Go.ChangeShapes Go.WideShapes Go.ChangeAt Go.RowKit Go.Hs
set_option linter.unusedVariables false
set_option maxRecDepth 100000
theorem lifted (os:Os) (started:os.Started) (H:Type) (enc:TypeId × Value→H) :
  ReturnsInHanded {} Tryz.checked os 7 .any (fun w args=>(Rows.typesKnownSpec.pre enc Tryz.prog Tryz.f7 Rows.typesKnownRow.domain false w args∧laidMet Tryz.prog laidAll w)∧sizedMet enc Tryz.prog Tryz.f7 (OpenSpec.ofChange Rows.typesKnownSpec) false w args)
   (Rows.typesKnownSpec.post enc Tryz.prog Tryz.f7 false true false false):=by
 refine lift_shaped (C:=Tryz.checked) (X:=fun w _=>laidMet Tryz.prog laidAll w) (fun _ _ _ hh h=>h.of_heap hh) own started (by kernel_rfl) Tryz.func7
  (ChangeSpec.witness_at (enc:=enc) (C:=Tryz.checked) (os:=os) (X:=fun w _=>laidMet Tryz.prog laidAll w) false (laidWorld os) #[] 8 rfl (by kernel_rfl) (by kernel_rfl) (by kernel_rfl) (by kernel_rfl) (by kernel_rfl) (laidWorld_met os _)) ?_
 intro W base args ds gs before hS hval0 hW hL
 have hval:∀ (j:Nat) t v,Tryz.f7.params[j]? = some t→args[j]? = some v→Value.okWide Tryz.prog W .any base t v:=hval0
 have hW':=hW
 obtain ⟨p,q,hA0,hV,rfl,hfz,hnd⟩:=hW
 have hA:DataW.TrodAll enc Tryz.prog W 0 (fun _=>true) true Tryz.f7.params.toList args.toList ds p:=hA0
 rw [Tryz.params7] at hA hval
 obtain ⟨hargs,rfl,rfl⟩:=trodAll_nil hA
 obtain rfl:args = #[]:=by cases args;simp_all
 obtain ⟨rfl,rfl⟩:=trodVars_none hV
 have hR:RelA (Cx.ofW W) #[] []:=by
  exact ⟨rfl,fun i k1 k2=>absurd k1 (Nat.not_lt_zero i)⟩
 obtain ⟨m,hG⟩:=laid_G hL hS
 refine (Spec.toCallsG (lTypesKnown (gE m) (gE_ok m) (gE_old m)) hG hR).mono ?_
 rintro e W' ⟨c,v,H',Y,rfl,hr,rfl,hB⟩
 obtain rfl:=hr.bool_inv
 refine ⟨_,rfl,_,_,_,[],[],[],hW',?_,?_,rfl,hB.frame _,fun h=>by cases h⟩
 ·exact trodAll_cons_mk (shut_bool Tryz.underlying4 _) trodAll_mk0
 ·exact trodAll_mk0
theorem over:Rows.typesKnownRow.holds Tryz.pinned (OpenSpec.ofChange Rows.typesKnownSpec) :=
 OpenClaim.holds_of_wide 7 Tryz.f7 rfl rfl rfl rfl rfl rfl rfl ⟨rfl,rfl,rfl,rfl,rfl⟩ rfl rfl rfl rfl rfl (by kernel_rfl) Tryz.func7 (by kernel_rfl)
  (of_decide_eq_true (by kernel_rfl)) (by unfold Func.isWrapper;first | (rw [if_pos (by decide +kernel)];kernel_rfl) | (rw [if_neg (by decide +kernel)];exact ⟨rfl,rfl⟩))
  (fun os started H enc _=>lifted os started H enc)
theorem wants (j:Nat) (t:TypeId) (h:Tryz.f7.params[j]? = some t):Tryz.prog.wantsStandIn t=false:=by
 rw [Tryz.params7] at h
 cases h
theorem proved:Rows.TypesKnownCardSaid :=
 Claim7.holds_tied_plain_at .later [] [.data,.data,.data,.data,.sentinel,.sentinel,.widerDeep,.pinned] true (true,"c61799da9672bb93df461c861db7a63f9a2dff05b3c1b7d4d17194ccce321fe3") true
  over (fun _ h=>by cases h) (by kernel_rfl) (fun _ h=>by cases h) typesKnown_row_tie rfl ⟨rfl,rfl⟩ (by kernel_rfl) rfl
  (fun f fn hf hfn=>by
   obtain rfl:f=7:=Option.some.inj ((show Tryz.prog.funcNamed "hopscotch/hopscotchlaw09.TypesKnown" = some 7 by kernel_rfl).symm.trans hf) |>.symm
   obtain rfl:fn=Tryz.f7:=(Option.some.inj (Tryz.func7.symm.trans hfn)).symm
   exact ⟨by kernel_rfl,fun j t ht=>wants j t ht⟩)
  (by kernel_rfl)
#print axioms proved
end Go.Proofs.YtpoiceejhcpnaaaGreatDoor.typesKnown
end
