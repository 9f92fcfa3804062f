/- For every input GEvalKnownS returns true, and its arguments read as before. No condition. -/
/- Part 47 of the proof of a statement of seat YtnjcehngoajnnaaGreatDoor: HsGEvalKnownS. -/
import Derived.Test.YtnjcehngoajnnaaGreatDoorPart46
import Derived.Test.YtnjcehngoajnnaaGreatDoorTie
import Derived.Test.YtnjcehngoajnnaaGreatDoorCards
set_option linter.unusedSimpArgs false
set_option linter.unusedVariables false
section
namespace Go.Proofs.YtnjcehngoajnnaaGreatDoor.evalKnown
open Go.ChangeShapes Go.WideShapes Go.ChangeAt Go.RowKit Go.Hs
set_option linter.unusedVariables false
set_option maxRecDepth 100000
theorem lifted (os:Os) (started:os.Started) (H:Type) (enc:TypeId × Value→H) :
  ReturnsInHanded {} Tryz.checked os 7 .any (fun w args=>(Rows.evalKnownSpec.pre enc Tryz.prog Tryz.f7 Rows.evalKnownRow.domain false w args∧laidMet Tryz.prog Zid w)∧sizedMet enc Tryz.prog Tryz.f7 (OpenSpec.ofChange Rows.evalKnownSpec) false w args)
   (Rows.evalKnownSpec.post enc Tryz.prog Tryz.f7 false true false false):=by
 refine Zii (C:=Tryz.checked) (X:=fun w _=>laidMet Tryz.prog Zid w) (fun _ _ _ hh h=>h.of_heap hh) own started (by kernel_rfl) Tryz.func7
  (ChangeSpec.witness_at (enc:=enc) (C:=Tryz.checked) (os:=os) (X:=fun w _=>laidMet Tryz.prog Zid w) false (laidWorld os) #[] 8 rfl (by kernel_rfl) (by kernel_rfl) (by kernel_rfl) (by kernel_rfl) (by kernel_rfl) (Zbg os _)) ?_
 intro W base args ds gs before hS hval0 hW hL;have hval:∀ (j:Nat) t v,Tryz.f7.params[j]? = some t→args[j]? = some v→Value.okWide Tryz.prog W .any base t v:=hval0;have hW':=hW;obtain ⟨p,q,hA0,hV,rfl,hfz,hnd⟩:=hW;have hA:DataW.TrodAll enc Tryz.prog W 0 (fun _=>true) true Tryz.f7.params.toList args.toList ds p:=hA0;rw [Tryz.params7] at hA hval;obtain ⟨hargs,rfl,rfl⟩:=trodAll_nil hA
 obtain rfl:args = #[]:=by cases args;simp_all
 obtain ⟨rfl,rfl⟩:=trodVars_none hV
 have hR:RelA (Ztb W) #[] []:=by
  exact ⟨rfl,fun i k1 k2=>absurd k1 (Nat.not_lt_zero i)⟩
 obtain ⟨m,hG⟩:=Zy1 hL hS;refine (Zhg (Zev (gE m) (gE_ok m)) hG hR).mono ?_;rintro e W' ⟨c,v,H',Y,rfl,hr,rfl,hB⟩;obtain rfl:=hr.bool_inv;refine ⟨_,rfl,_,_,_,[],[],[],hW',?_,?_,rfl,hB.frame _,fun h=>by cases h⟩
 ·exact trodAll_cons_mk (shut_bool Tryz.underlying4 _) trodAll_mk0
 ·exact trodAll_mk0
set_option maxHeartbeats 4000000 in
theorem facts:joinedFacts Tryz.prog 7 Tryz.f7 Rows.evalKnownSpec Rows.evalKnownRow=true:=by
 unfold joinedFacts;simp only [Bool.and_eq_true];exact ⟨⟨⟨⟨⟨⟨⟨⟨⟨⟨⟨⟨⟨⟨⟨⟨⟨⟨⟨⟨⟨⟨⟨⟨⟨⟨⟨⟨⟨⟨⟨(by as_aux_lemma=>kernel_rfl),Zye⟩,Zv0⟩,(by as_aux_lemma=>kernel_rfl)⟩,(by as_aux_lemma=>kernel_rfl)⟩,(by as_aux_lemma=>kernel_rfl)⟩,Zpu⟩,(by as_aux_lemma=>kernel_rfl)⟩,Zqu⟩,(by as_aux_lemma=>kernel_rfl)⟩,(by as_aux_lemma=>kernel_rfl)⟩,(by as_aux_lemma=>kernel_rfl)⟩,(by as_aux_lemma=>kernel_rfl)⟩,(by as_aux_lemma=>kernel_rfl)⟩,(by as_aux_lemma=>kernel_rfl)⟩,(by as_aux_lemma=>kernel_rfl)⟩,(by as_aux_lemma=>kernel_rfl)⟩,(by as_aux_lemma=>kernel_rfl)⟩,(by as_aux_lemma=>kernel_rfl)⟩,(by as_aux_lemma=>kernel_rfl)⟩,(by as_aux_lemma=>kernel_rfl)⟩,(by as_aux_lemma=>kernel_rfl)⟩,Zx0⟩,(by as_aux_lemma=>kernel_rfl)⟩,Zru⟩,Zsu⟩,Zkp⟩,Zw0⟩,(by as_aux_lemma=>kernel_rfl)⟩,(by as_aux_lemma=>kernel_rfl)⟩,(by as_aux_lemma=>kernel_rfl)⟩,(by as_aux_lemma=>kernel_rfl)⟩
theorem over:Rows.evalKnownRow.holds Tryz.pinned (OpenSpec.ofChange Rows.evalKnownSpec) :=
 OpenClaim.holds_of_wide 7 Tryz.f7 rfl rfl rfl rfl rfl rfl rfl ⟨rfl,rfl,rfl,rfl,rfl⟩ rfl rfl rfl rfl rfl (by as_aux_lemma=>kernel_rfl) Tryz.func7 facts
  (of_decide_eq_true (by kernel_rfl)) (by unfold Func.isWrapper;first | (rw [if_pos (by decide +kernel)];kernel_rfl) | (rw [if_neg (by decide +kernel)];exact ⟨rfl,rfl⟩))
  (fun os started H enc _=>lifted os started H enc)
theorem wants (j:Nat) (t:TypeId) (h:Tryz.f7.params[j]? = some t):Tryz.prog.wantsStandIn t=false:=by
 rw [Tryz.params7] at h;cases h
theorem proved:Rows.EvalKnownCardSaid :=
 Claim7.holds_tied_plain_at .later [] [.data,.data,.data,.data,.sentinel,.sentinel,.widerDeep,.pinned] true (true,"79a15f59ef6ebe220c04710760e2448855e589ec49af8e3321be16fce429ac7d") true
  over (fun _ h=>by cases h) (by as_aux_lemma=>kernel_rfl) (fun _ h=>by cases h) evalKnown_row_tie rfl ⟨rfl,rfl⟩ (by as_aux_lemma=>kernel_rfl) rfl
  (fun f fn hf hfn=>by
   obtain rfl:f=7:=Option.some.inj ((show Tryz.prog.funcNamed "hopscotch/hopscotchlaw10.EvalKnown" = some 7 by as_aux_lemma=>kernel_rfl).symm.trans hf) |>.symm
   obtain rfl:fn=Tryz.f7:=(Option.some.inj (Tryz.func7.symm.trans hfn)).symm
   exact ⟨by as_aux_lemma=>kernel_rfl,fun j t ht=>wants j t ht⟩)
  (by as_aux_lemma=>kernel_rfl)
#print axioms proved
end Go.Proofs.YtnjcehngoajnnaaGreatDoor.evalKnown
end
