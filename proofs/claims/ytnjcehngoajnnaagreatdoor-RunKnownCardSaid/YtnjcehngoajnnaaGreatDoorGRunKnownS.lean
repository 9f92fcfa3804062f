/- For every input GRunKnownS returns true, and its arguments read as before. No condition. -/
/- Part 54 of a proof; no condition. -/
import Derived.Test.YtnjcehngoajnnaaGreatDoorPart53
import Derived.Test.YtnjcehngoajnnaaGreatDoorTie
set_option linter.unusedSimpArgs false
set_option linter.unusedVariables false
section
namespace Go.Proofs.YtnjcehngoajnnaaGreatDoor.runKnown
open Go.ChangeShapes Go.WideShapes Go.ChangeAt Go.RowKit Go.Hs
set_option linter.unusedVariables false
set_option maxRecDepth 100000
theorem lifted (os:Os) (started:os.Started) (H:Type) (enc:TypeId × Value→H) :
  ReturnsInHanded {} Tryz.checked os 12 .any (fun w args=>(Rows.runKnownSpec.pre enc Tryz.prog Tryz.f12 Rows.runKnownRow.domain false w args∧laidMet Tryz.prog Zri w)∧sizedMet enc Tryz.prog Tryz.f12 (OpenSpec.ofChange Rows.runKnownSpec) false w args)
   (Rows.runKnownSpec.post enc Tryz.prog Tryz.f12 false true false false):=by
 refine Z21 (C:=Tryz.checked) (X:=fun w _=>laidMet Tryz.prog Zri w) (fun _ _ _ hh h=>h.of_heap hh) own started (by kernel_rfl) Tryz.func12
  (ChangeSpec.witness_at (enc:=enc) (C:=Tryz.checked) (os:=os) (X:=fun w _=>laidMet Tryz.prog Zri w) false (laidWorld os) #[] 8 rfl (by kernel_rfl) (by kernel_rfl) (by kernel_rfl) (by kernel_rfl) (by kernel_rfl) (Zbu os _)) ?_
 intro W base args ds gs before hS hval0 hW hL;have hval:∀ (j:Nat) t v,Tryz.f12.params[j]? = some t→args[j]? = some v→Value.okWide Tryz.prog W .any base t v:=hval0;have hW':=hW;obtain ⟨p,q,hA0,hV,rfl,hfz,hnd⟩:=hW;have hA:DataW.TrodAll enc Tryz.prog W 0 (fun _=>true) true Tryz.f12.params.toList args.toList ds p:=hA0;rw [Tryz.params12] at hA hval;obtain ⟨hargs,rfl,rfl⟩:=trodAll_nil hA
 obtain rfl:args = #[]:=by cases args;simp_all
 obtain ⟨rfl,rfl⟩:=trodVars_none hV
 have hR:RelA (Zbf W) #[] []:=by
  exact ⟨rfl,fun i k1 k2=>absurd k1 (Nat.not_lt_zero i)⟩
 obtain ⟨m,hG⟩:=laid_G hL hS;refine (Ztw (Zr9 (gE m) (gE_ok m) (gE_old m)) hG hR).mono ?_;rintro e W' ⟨c,v,H',Y,rfl,hr,rfl,hB⟩;obtain rfl:=hr.bool_inv;refine ⟨_,rfl,_,_,_,[],[],[],hW',?_,?_,rfl,hB.frame _,fun h=>by cases h⟩
 ·exact trodAll_cons_mk (shut_bool Tryz.underlying4 _) trodAll_mk0
 ·exact trodAll_mk0
set_option maxHeartbeats 4000000 in
theorem facts:joinedFacts Tryz.prog 12 Tryz.f12 Rows.runKnownSpec Rows.runKnownRow=true:=by
 unfold joinedFacts;simp only [Bool.and_eq_true];exact ⟨⟨⟨⟨⟨⟨⟨⟨⟨⟨⟨⟨⟨⟨⟨⟨⟨⟨⟨⟨⟨⟨⟨⟨⟨⟨⟨⟨⟨⟨⟨(by as_aux_lemma=>kernel_rfl),laidOut⟩,sfMaps⟩,(by as_aux_lemma=>kernel_rfl)⟩,(by as_aux_lemma=>kernel_rfl)⟩,(by as_aux_lemma=>kernel_rfl)⟩,sfStops⟩,(by as_aux_lemma=>kernel_rfl)⟩,sfKnobs⟩,(by as_aux_lemma=>kernel_rfl)⟩,(by as_aux_lemma=>kernel_rfl)⟩,(by as_aux_lemma=>kernel_rfl)⟩,(by as_aux_lemma=>kernel_rfl)⟩,(by as_aux_lemma=>kernel_rfl)⟩,(by as_aux_lemma=>kernel_rfl)⟩,(by as_aux_lemma=>kernel_rfl)⟩,(by as_aux_lemma=>kernel_rfl)⟩,(by as_aux_lemma=>kernel_rfl)⟩,(by as_aux_lemma=>kernel_rfl)⟩,(by as_aux_lemma=>kernel_rfl)⟩,(by as_aux_lemma=>kernel_rfl)⟩,(by as_aux_lemma=>kernel_rfl)⟩,sfKeys⟩,(by as_aux_lemma=>kernel_rfl)⟩,sfHeard⟩,sfEnter⟩,Zgca⟩,sfMake⟩,(by as_aux_lemma=>kernel_rfl)⟩,(by as_aux_lemma=>kernel_rfl)⟩,(by as_aux_lemma=>kernel_rfl)⟩,(by as_aux_lemma=>kernel_rfl)⟩
theorem over:Rows.runKnownRow.holds Tryz.pinned (OpenSpec.ofChange Rows.runKnownSpec) :=
 OpenClaim.holds_of_wide 12 Tryz.f12 rfl rfl rfl rfl rfl rfl rfl ⟨rfl,rfl,rfl,rfl,rfl⟩ rfl rfl rfl rfl rfl (by as_aux_lemma=>kernel_rfl) Tryz.func12 facts
  (of_decide_eq_true (by kernel_rfl)) (by unfold Func.isWrapper;first | (rw [if_pos (by decide +kernel)];kernel_rfl) | (rw [if_neg (by decide +kernel)];exact ⟨rfl,rfl⟩))
  (fun os started H enc _=>lifted os started H enc)
theorem wants (j:Nat) (t:TypeId) (h:Tryz.f12.params[j]? = some t):Tryz.prog.wantsStandIn t=false:=by
 rw [Tryz.params12] at h;cases h
theorem proved:Rows.RunKnownCardSaid :=
 Claim7.holds_tied_plain_at .later [] [.data,.data,.data,.data,.sentinel,.sentinel,.widerDeep,.pinned] true (true,"79a15f59ef6ebe220c04710760e2448855e589ec49af8e3321be16fce429ac7d") true
  over (fun _ h=>by cases h) (by as_aux_lemma=>kernel_rfl) (fun _ h=>by cases h) runKnown_row_tie rfl ⟨rfl,rfl⟩ (by as_aux_lemma=>kernel_rfl) rfl
  (fun f fn hf hfn=>by
   obtain rfl:f=12:=Option.some.inj ((show Tryz.prog.funcNamed "hopscotch/hopscotchlaw12.RunKnown" = some 12 by as_aux_lemma=>kernel_rfl).symm.trans hf) |>.symm
   obtain rfl:fn=Tryz.f12:=(Option.some.inj (Tryz.func12.symm.trans hfn)).symm
   exact ⟨by as_aux_lemma=>kernel_rfl,fun j t ht=>wants j t ht⟩)
  (by as_aux_lemma=>kernel_rfl)
#print axioms proved
end Go.Proofs.YtnjcehngoajnnaaGreatDoor.runKnown
end
