/- For every input EExprKnownS returns true, and its arguments read as before. No condition. -/
/- Part 45 of the proof of a statement of seat YtpoiceejhcpnaaaGreatDoor: HsEExprKnownS. -/
import Derived.Test.YtpoiceejhcpnaaaGreatDoorPart44
import Derived.Test.YtpoiceejhcpnaaaGreatDoorTie
import Derived.Test.YtpoiceejhcpnaaaGreatDoorCards
set_option linter.unusedSimpArgs false
set_option linter.unusedVariables false
section
namespace Go.Proofs.YtpoiceejhcpnaaaGreatDoor.exprKnown
open Go.ChangeShapes Go.WideShapes Go.ChangeAt Go.RowKit Go.Hs
set_option linter.unusedVariables false
set_option maxRecDepth 100000
theorem lifted (os:Os) (started:os.Started) (H:Type) (enc:TypeId × Value→H) :
  ReturnsInHanded {} Tryz.checked os 13 .any (fun w args=>(Rows.exprKnownSpec.pre enc Tryz.prog Tryz.f13 Rows.exprKnownRow.domain false w args∧laidMet Tryz.prog laidAll w)∧sizedMet enc Tryz.prog Tryz.f13 (OpenSpec.ofChange Rows.exprKnownSpec) false w args)
   (Rows.exprKnownSpec.post enc Tryz.prog Tryz.f13 false true false false):=by
 refine lift_shaped (C:=Tryz.checked) (X:=fun w _=>laidMet Tryz.prog laidAll w) (fun _ _ _ hh h=>h.of_heap hh) own started (by kernel_rfl) Tryz.func13
  (ChangeSpec.witness_at (enc:=enc) (C:=Tryz.checked) (os:=os) (X:=fun w _=>laidMet Tryz.prog laidAll w) false (laidWorld os) #[] 8 rfl (by kernel_rfl) (by kernel_rfl) (by kernel_rfl) (by kernel_rfl) (by kernel_rfl) (laidWorld_met os _)) ?_
 intro W base args ds gs before hS hval0 hW hL
 have hval:∀ (j:Nat) t v,Tryz.f13.params[j]? = some t→args[j]? = some v→Value.okWide Tryz.prog W .any base t v:=hval0
 have hW':=hW
 obtain ⟨p,q,hA0,hV,rfl,hfz,hnd⟩:=hW
 have hA:DataW.TrodAll enc Tryz.prog W 0 (fun _=>true) true Tryz.f13.params.toList args.toList ds p:=hA0
 rw [Tryz.params13] at hA hval
 obtain ⟨hargs,rfl,rfl⟩:=trodAll_nil hA
 obtain rfl:args = #[]:=by cases args;simp_all
 obtain ⟨rfl,rfl⟩:=trodVars_none hV
 have hR:RelA (Cx.ofW W) #[] []:=by
  exact ⟨rfl,fun i k1 k2=>absurd k1 (Nat.not_lt_zero i)⟩
 obtain ⟨m,hG⟩:=laid_G hL hS
 refine (Spec.toCallsG (lExprKnown (gE m) (gE_ok m) (gE_old m)) hG hR).mono ?_
 rintro e W' ⟨c,v,H',Y,rfl,hr,rfl,hB⟩
 obtain rfl:=hr.bool_inv
 refine ⟨_,rfl,_,_,_,[],[],[],hW',?_,?_,rfl,hB.frame _,fun h=>by cases h⟩
 ·exact trodAll_cons_mk (shut_bool Tryz.underlying4 _) trodAll_mk0
 ·exact trodAll_mk0
theorem over:Rows.exprKnownRow.holds Tryz.pinned (OpenSpec.ofChange Rows.exprKnownSpec) :=
 OpenClaim.holds_of_wide 13 Tryz.f13 rfl rfl rfl rfl rfl rfl rfl ⟨rfl,rfl,rfl,rfl,rfl⟩ rfl rfl rfl rfl rfl (by kernel_rfl) Tryz.func13 (by kernel_rfl)
  (of_decide_eq_true (by kernel_rfl)) (by unfold Func.isWrapper;first | (rw [if_pos (by decide +kernel)];kernel_rfl) | (rw [if_neg (by decide +kernel)];exact ⟨rfl,rfl⟩))
  (fun os started H enc _=>lifted os started H enc)
theorem wants (j:Nat) (t:TypeId) (h:Tryz.f13.params[j]? = some t):Tryz.prog.wantsStandIn t=false:=by
 rw [Tryz.params13] at h
 cases h
theorem proved:Rows.ExprKnownCardSaid :=
 Claim7.holds_tied_plain_at .later [] [.data,.data,.data,.data,.sentinel,.sentinel,.widerDeep,.pinned] true (true,"c61799da9672bb93df461c861db7a63f9a2dff05b3c1b7d4d17194ccce321fe3") true
  over (fun _ h=>by cases h) (by kernel_rfl) (fun _ h=>by cases h) exprKnown_row_tie rfl ⟨rfl,rfl⟩ (by kernel_rfl) rfl
  (fun f fn hf hfn=>by
   obtain rfl:f=13:=Option.some.inj ((show Tryz.prog.funcNamed "hopscotch/hopscotchlaw08.ExprKnown" = some 13 by kernel_rfl).symm.trans hf) |>.symm
   obtain rfl:fn=Tryz.f13:=(Option.some.inj (Tryz.func13.symm.trans hfn)).symm
   exact ⟨by kernel_rfl,fun j t ht=>wants j t ht⟩)
  (by kernel_rfl)
#print axioms proved
end Go.Proofs.YtpoiceejhcpnaaaGreatDoor.exprKnown
end
