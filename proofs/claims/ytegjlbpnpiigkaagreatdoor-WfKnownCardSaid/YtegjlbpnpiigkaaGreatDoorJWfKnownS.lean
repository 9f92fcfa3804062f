/- For every input JWfKnownS returns true, and its arguments read as before. No condition. -/
/- A part. No condition. -/
import Derived.Test.YtegjlbpnpiigkaaGreatDoorP53
import Derived.Test.YtegjlbpnpiigkaaGreatDoorTie
set_option linter.all false
namespace Go.Proofs.YtegjlbpnpiigkaaGreatDoor.wfKnown
open Go.ChangeShapes Go.WideShapes Go.ChangeAt Go.RowKit Go.Hs
set_option linter.unusedVariables false
set_option maxRecDepth 100000
theorem lifted(os:Os)(started:os.Started)(H:Type)(enc:TypeId×Value->H):
  ReturnsInHanded {} Tryz.checked os 6 .any (λw args=>(Rows.wfKnownSpec.pre enc Tryz.prog Tryz.f6 Rows.wfKnownRow.domain false w args/\laidMet Tryz.prog Zwh w)/\sizedMet enc Tryz.prog Tryz.f6 (OpenSpec.ofChange Rows.wfKnownSpec) false w args)
   (Rows.wfKnownSpec.post enc Tryz.prog Tryz.f6 false true false false):=by
 refine Zp2 (C:=Tryz.checked) (X:=λw _=>laidMet Tryz.prog Zwh w) (λ_ _ _ hh h=>h.of_heap hh) own started (by kernel_rfl) Tryz.func6
  (ChangeSpec.witness_at (enc:=enc) (C:=Tryz.checked) (os:=os) (X:=λw _=>laidMet Tryz.prog Zwh w) false (laidWorld os) #[] 8 rfl (by kernel_rfl) (by kernel_rfl) (by kernel_rfl) (by kernel_rfl) (by kernel_rfl) (Zwt os _)) ?_
 intro W base args ds gs before hS hval0 hW hL;have hval:∀ (j:Nat) t v,Tryz.f6.params[j]?=some t->args[j]?=some v->Value.okWide Tryz.prog W .any base t v:=hval0;have hW':=hW;obtain⟨p,q,hA0,hV,rfl,hfz,hnd⟩:=hW;have hA:DataW.TrodAll enc Tryz.prog W 0 (λ_=>true) true Tryz.f6.params.toList args.toList ds p:=hA0;rw[Tryz.params6]at hA hval;obtain⟨hargs,rfl,rfl⟩:=trodAll_nil hA
 obtain rfl:args = #[]:=by cases args;simp_all
 obtain⟨rfl,rfl⟩:=trodVars_none hV
 have hR:RelA (Zue W) #[] []:=by
  exact⟨rfl,λi k1 k2=>absurd k1 (Nat.not_lt_zero i)⟩
 obtain⟨m,hG⟩:=laid_G hL hS;refine(Znu (Zwna (gE m) (gE_ok m) (gE_old m)) hG hR).mono ?_;rintro e W' ⟨c,v,H',Y,rfl,hr,rfl,hB⟩;obtain rfl:=hr.bool_inv;refine⟨_,rfl,_,_,_,[],[],[],hW',?_,?_,rfl,hB.frame _,λh=>by cases h⟩;exact trodAll_cons_mk (shut_bool Tryz.underlying4 _) trodAll_mk0;exact trodAll_mk0
set_option maxHeartbeats 4000000 in
theorem facts:joinedFacts Tryz.prog 6 Tryz.f6 Rows.wfKnownSpec Rows.wfKnownRow=true:=by
 unfold joinedFacts;simp only[Bool.and_eq_true];exact⟨⟨⟨⟨⟨⟨⟨⟨⟨⟨⟨⟨⟨⟨⟨⟨⟨⟨⟨⟨⟨⟨⟨⟨⟨⟨⟨⟨⟨⟨⟨(by as_aux_lemma=>kernel_rfl),laidOut⟩,sfMaps⟩,(by as_aux_lemma=>kernel_rfl)⟩,(by as_aux_lemma=>kernel_rfl)⟩,(by as_aux_lemma=>kernel_rfl)⟩,sfStops⟩,(by as_aux_lemma=>kernel_rfl)⟩,sfKnobs⟩,(by as_aux_lemma=>kernel_rfl)⟩,(by as_aux_lemma=>kernel_rfl)⟩,(by as_aux_lemma=>kernel_rfl)⟩,(by as_aux_lemma=>kernel_rfl)⟩,(by as_aux_lemma=>kernel_rfl)⟩,(by as_aux_lemma=>kernel_rfl)⟩,(by as_aux_lemma=>kernel_rfl)⟩,(by as_aux_lemma=>kernel_rfl)⟩,(by as_aux_lemma=>kernel_rfl)⟩,(by as_aux_lemma=>kernel_rfl)⟩,(by as_aux_lemma=>kernel_rfl)⟩,(by as_aux_lemma=>kernel_rfl)⟩,(by as_aux_lemma=>kernel_rfl)⟩,sfKeys⟩,(by as_aux_lemma=>kernel_rfl)⟩,sfHeard⟩,sfEnter⟩,Zhma⟩,sfMake⟩,(by as_aux_lemma=>kernel_rfl)⟩,(by as_aux_lemma=>kernel_rfl)⟩,(by as_aux_lemma=>kernel_rfl)⟩,(by as_aux_lemma=>kernel_rfl)⟩
theorem over:Rows.wfKnownRow.holds Tryz.pinned (OpenSpec.ofChange Rows.wfKnownSpec):=
 OpenClaim.holds_of_wide 6 Tryz.f6 rfl rfl rfl rfl rfl rfl rfl ⟨rfl,rfl,rfl,rfl,rfl⟩ rfl rfl rfl rfl rfl (by as_aux_lemma=>kernel_rfl) Tryz.func6 facts
  (of_decide_eq_true (by kernel_rfl)) (by unfold Func.isWrapper;first|(rw[if_pos (by decide +kernel)];kernel_rfl)|(rw[if_neg (by decide +kernel)];exact⟨rfl,rfl⟩))
  (λos started H enc _=>lifted os started H enc)
theorem wants(j:Nat)(t:TypeId)(h:Tryz.f6.params[j]?=some t):Tryz.prog.wantsStandIn t=false:=by
 rw[Tryz.params6]at h;cases h
theorem proved:Rows.WfKnownCardSaid:=
 Claim7.holds_tied_plain_at .later [] [.data,.data,.data,.data,.sentinel,.sentinel,.widerDeep,.pinned] true (true,"5456446c786fb58f40e57dc1da1a39b33a266d04ebe127f85a60747740b92ae0") true
  over (λ_ h=>by cases h) (by as_aux_lemma=>kernel_rfl) (λ_ h=>by cases h) wfKnown_row_tie rfl ⟨rfl,rfl⟩ (by as_aux_lemma=>kernel_rfl) rfl
  (λf fn hf hfn=>by
   obtain rfl:f=6:=Option.some.inj ((show Tryz.prog.funcNamed "hopscotch/hopscotchlaw17.WfKnown" = some 6 by as_aux_lemma=>kernel_rfl).symm.trans hf) |>.symm
   obtain rfl:fn=Tryz.f6:=(Option.some.inj (Tryz.func6.symm.trans hfn)).symm
   exact⟨by as_aux_lemma=>kernel_rfl,λj t ht=>wants j t ht⟩)
  (by as_aux_lemma=>kernel_rfl)
#print axioms proved
end Go.Proofs.YtegjlbpnpiigkaaGreatDoor.wfKnown
