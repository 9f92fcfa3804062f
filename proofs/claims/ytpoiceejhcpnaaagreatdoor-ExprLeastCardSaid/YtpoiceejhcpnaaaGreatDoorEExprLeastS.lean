/- For every input EExprLeastS returns true, and its arguments read as before. No condition. -/
/- Part 45 of the proof of a statement of seat YtpoiceejhcpnaaaGreatDoor: HsEExprLeastS. -/
import Derived.Test.YtpoiceejhcpnaaaGreatDoorPart44
import Derived.Test.YtpoiceejhcpnaaaGreatDoorTie
import Derived.Test.YtpoiceejhcpnaaaGreatDoorCards
set_option linter.unusedSimpArgs false
set_option linter.unusedVariables false
section
namespace Go.Proofs.YtpoiceejhcpnaaaGreatDoor.exprLeast
open Go.ChangeShapes Go.WideShapes Go.ChangeAt Go.RowKit Go.Hs
set_option linter.unusedVariables false
set_option maxRecDepth 100000
theorem lifted (os:Os) (started:os.Started) (H:Type) (enc:TypeId × Value→H) :
  ReturnsInHanded {} Tryz.checked os 12 .any (fun w args=>(Rows.exprLeastSpec.pre enc Tryz.prog Tryz.f12 Rows.exprLeastRow.domain false w args∧laidMet Tryz.prog laidAll w)∧sizedMet enc Tryz.prog Tryz.f12 (OpenSpec.ofChange Rows.exprLeastSpec) false w args)
   (Rows.exprLeastSpec.post enc Tryz.prog Tryz.f12 false true false false):=by
 refine lift_shaped (C:=Tryz.checked) (X:=fun w _=>laidMet Tryz.prog laidAll w) (fun _ _ _ hh h=>h.of_heap hh) own started (by kernel_rfl) Tryz.func12
  (ChangeSpec.witness_at (enc:=enc) (C:=Tryz.checked) (os:=os) (X:=fun w _=>laidMet Tryz.prog laidAll w) false (laidWorld os) #[.agg #[.slice none 0 0]] 8 rfl (by kernel_rfl) (by kernel_rfl) (by kernel_rfl) (by kernel_rfl) (by kernel_rfl) (laidWorld_met os _)) ?_
 intro W base args ds gs before hS hval0 hW hL
 have hval:∀ (j:Nat) t v,Tryz.f12.params[j]? = some t→args[j]? = some v→Value.okWide Tryz.prog W .any base t v:=hval0
 have hW':=hW
 obtain ⟨p,q,hA0,hV,rfl,hfz,hnd⟩:=hW
 have hA:DataW.TrodAll enc Tryz.prog W 0 (fun _=>true) true Tryz.f12.params.toList args.toList ds p:=hA0
 rw [Tryz.params12] at hA hval
 obtain ⟨v0,vs0,d0,ds0,p0,q0,hargs,rfl,rfl,h0,r0⟩:=trodAll_cons hA
 obtain ⟨rfl,rfl,rfl⟩:=trodAll_nil r0
 obtain rfl:args = #[v0]:=by cases args;simp_all
 obtain ⟨rfl,rfl⟩:=trodVars_none hV
 obtain ⟨x0,i0,hx0⟩:=argE (hval 0 24 v0 rfl rfl) h0
 have hR:RelA (Cx.ofW W) #[v0] [.agg [encSl .old 6 encXN x0]]:=by
  refine ⟨rfl,fun i k1 k2=>?_⟩
  match i,k1 with
  | 0,_=>exact hx0
 obtain ⟨m,hG⟩:=laid_G hL hS
 refine (Spec.toCallsG (lExprLeast (gE m) (gE_ok m) x0 (fun n hn=>(i0 n hn).2)) hG hR).mono ?_
 rintro e W' ⟨c,v,H',Y,rfl,hr,rfl,hB⟩
 obtain rfl:=hr.bool_inv
 have hlt0:∀ x∈p0,x.block<W.heap.size:=fun x hx=>by simpa using hW'.lt x (by simp [hx])
 have k0:=Below.trod laidOut (by kernel_rfl) (of_decide_eq_true (by kernel_rfl)) h0 hB hlt0
 refine ⟨_,rfl,_,_,_,[],p0++[],[],hW',?_,?_,rfl,hB.frame _,fun h=>by cases h⟩
 ·exact trodAll_cons_mk (shut_bool Tryz.underlying4 _) trodAll_mk0
 ·exact trodAll_cons_mk k0 trodAll_mk0
theorem over:Rows.exprLeastRow.holds Tryz.pinned (OpenSpec.ofChange Rows.exprLeastSpec) :=
 OpenClaim.holds_of_wide 12 Tryz.f12 rfl rfl rfl rfl rfl rfl rfl ⟨rfl,rfl,rfl,rfl,rfl⟩ rfl rfl rfl rfl rfl (by kernel_rfl) Tryz.func12 (by kernel_rfl)
  (of_decide_eq_true (by kernel_rfl)) (by unfold Func.isWrapper;first | (rw [if_pos (by decide +kernel)];kernel_rfl) | (rw [if_neg (by decide +kernel)];exact ⟨rfl,rfl⟩))
  (fun os started H enc _=>lifted os started H enc)
theorem wants (j:Nat) (t:TypeId) (h:Tryz.f12.params[j]? = some t):Tryz.prog.wantsStandIn t=false:=by
 rw [Tryz.params12] at h
 match j,h with
 | 0,h=>exact (Option.some.inj h:24=t) ▸ (show Tryz.prog.wantsStandIn 24=false by kernel_rfl)
 | j+1,h=>cases h
theorem proved:Rows.ExprLeastCardSaid :=
 Claim7.holds_tied_plain_at .later [] [.data,.data,.data,.data,.sentinel,.sentinel,.widerDeep,.pinned] true (true,"c61799da9672bb93df461c861db7a63f9a2dff05b3c1b7d4d17194ccce321fe3") true
  over (fun _ h=>by cases h) (by kernel_rfl) (fun _ h=>by cases h) exprLeast_row_tie rfl ⟨rfl,rfl⟩ (by kernel_rfl) rfl
  (fun f fn hf hfn=>by
   obtain rfl:f=12:=Option.some.inj ((show Tryz.prog.funcNamed "hopscotch/hopscotchlaw08.ExprLeast" = some 12 by kernel_rfl).symm.trans hf) |>.symm
   obtain rfl:fn=Tryz.f12:=(Option.some.inj (Tryz.func12.symm.trans hfn)).symm
   exact ⟨by kernel_rfl,fun j t ht=>wants j t ht⟩)
  (by kernel_rfl)
#print axioms proved
end Go.Proofs.YtpoiceejhcpnaaaGreatDoor.exprLeast
end
