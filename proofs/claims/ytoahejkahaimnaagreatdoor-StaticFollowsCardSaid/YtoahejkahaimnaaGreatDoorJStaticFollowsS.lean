/- For every input JStaticFollowsS returns true, and its arguments read as before. No condition. -/
/- A part. No condition. -/
import Derived.Test.YtoahejkahaimnaaGreatDoorP52
import Derived.Test.YtoahejkahaimnaaGreatDoorTie
set_option linter.all false
namespace Go.Proofs.YtoahejkahaimnaaGreatDoor.staticFollows
open Go.ChangeShapes Go.WideShapes Go.ChangeAt Go.RowKit Go.Hs
set_option linter.unusedVariables false
set_option maxRecDepth 100000
theorem lifted(os:Os)(started:os.Started)(H:Type)(enc:TypeId×Value->H):
  ReturnsInHanded {} Tryz.checked os 4 .any (λw args=>(Rows.staticFollowsSpec.pre enc Tryz.prog Tryz.f4 Rows.staticFollowsRow.domain false w args/\laidMet Tryz.prog Ql w)/\sizedMet enc Tryz.prog Tryz.f4 (OpenSpec.ofChange Rows.staticFollowsSpec) false w args)
   (Rows.staticFollowsSpec.post enc Tryz.prog Tryz.f4 false true false false):=by
 refine Zro (C:=Tryz.checked) (X:=λw _=>laidMet Tryz.prog Ql w) (λ_ _ _ hh h=>h.of_heap hh) own started (by kernel_rfl) Tryz.func4
  (ChangeSpec.witness_at (enc:=enc) (C:=Tryz.checked) (os:=os) (X:=λw _=>laidMet Tryz.prog Ql w) false (laidWorld os) #[.agg #[.string ⟨#[]⟩,.slice none 0 0,.slice none 0 0,.slice none 0 0,.slice none 0 0,.slice none 0 0]] 8 rfl (by kernel_rfl) (by kernel_rfl) (by kernel_rfl) (by kernel_rfl) (by kernel_rfl) (C0 os _)) ?_
 intro W base args ds gs before hS hval0 hW hz hL;have hval:∀ (j:Nat) t v,Tryz.f4.params[j]?=some t->args[j]?=some v->Value.okWide Tryz.prog W .any base t v:=hval0;have hW':=hW;obtain⟨p,q,hA0,hV,rfl,hfz,hnd⟩:=hW;have hA:DataW.TrodAll enc Tryz.prog W 0 (λ_=>true) true Tryz.f4.params.toList args.toList ds p:=hA0;rw[Tryz.params4]at hA hval;obtain⟨v0,vs0,d0,ds0,p0,q0,hargs,rfl,rfl,h0,r0⟩:=trodAll_cons hA;obtain⟨rfl,rfl,rfl⟩:=trodAll_nil r0
 obtain rfl:args = #[v0]:=by cases args;simp_all
 obtain⟨rfl,rfl⟩:=trodVars_none hV;obtain⟨x0,i0,hx0⟩:=argD (hval 0 28 v0 rfl rfl) h0 (Kc hz (j:=0) (t:=28) rfl rfl)
 have hR:RelA (Wl W) #[v0] [Zv .old .old x0]:=by
  refine⟨rfl,λi k1 k2=>?_⟩
  match i,k1 with
  |0,_=>exact hx0
 obtain⟨m,hG⟩:=laid_G hL hS;refine(Ba (E7 (gE m) (gE_ok m) x0 (mdOk_r i0)) hG hR).mono ?_;rintro e W' ⟨c,v,H',Y,rfl,hr,rfl,hB⟩;obtain rfl:=hr.bool_inv
 have hlt0:∀ x∈p0,x.block<W.heap.size:=λx hx=>by simpa using hW'.lt x (by simp[hx])
 have k0:=Below.trod Zlt (by kernel_rfl) (of_decide_eq_true (by kernel_rfl)) h0 hB hlt0;refine⟨_,rfl,_,_,_,[],p0++[],[],hW',?_,?_,rfl,hB.frame _,λh=>by cases h⟩;exact trodAll_cons_mk (shut_bool Tryz.underlying4 _) trodAll_mk0;exact trodAll_cons_mk k0 trodAll_mk0
set_option maxHeartbeats 4000000 in
theorem facts:joinedFacts Tryz.prog 4 Tryz.f4 Rows.staticFollowsSpec Rows.staticFollowsRow=true:=by
 unfold joinedFacts;simp only[Bool.and_eq_true];exact⟨⟨⟨⟨⟨⟨⟨⟨⟨⟨⟨⟨⟨⟨⟨⟨⟨⟨⟨⟨⟨⟨⟨⟨⟨⟨⟨⟨⟨⟨⟨(by as_aux_lemma=>kernel_rfl),Zlt⟩,sfMaps⟩,(by as_aux_lemma=>kernel_rfl)⟩,(by as_aux_lemma=>kernel_rfl)⟩,(by as_aux_lemma=>kernel_rfl)⟩,Zf4⟩,(by as_aux_lemma=>kernel_rfl)⟩,Zg4⟩,(by as_aux_lemma=>kernel_rfl)⟩,(by as_aux_lemma=>kernel_rfl)⟩,(by as_aux_lemma=>kernel_rfl)⟩,(by as_aux_lemma=>kernel_rfl)⟩,(by as_aux_lemma=>kernel_rfl)⟩,(by as_aux_lemma=>kernel_rfl)⟩,(by as_aux_lemma=>kernel_rfl)⟩,(by as_aux_lemma=>kernel_rfl)⟩,(by as_aux_lemma=>kernel_rfl)⟩,(by as_aux_lemma=>kernel_rfl)⟩,(by as_aux_lemma=>kernel_rfl)⟩,(by as_aux_lemma=>kernel_rfl)⟩,(by as_aux_lemma=>kernel_rfl)⟩,sfKeys⟩,(by as_aux_lemma=>kernel_rfl)⟩,Zh4⟩,Zi4⟩,Z7z⟩,sfMake⟩,(by as_aux_lemma=>kernel_rfl)⟩,(by as_aux_lemma=>kernel_rfl)⟩,(by as_aux_lemma=>kernel_rfl)⟩,(by as_aux_lemma=>kernel_rfl)⟩
theorem over:Rows.staticFollowsRow.holds Tryz.pinned (OpenSpec.ofChange Rows.staticFollowsSpec):=
 OpenClaim.holds_of_wide 4 Tryz.f4 rfl rfl rfl rfl rfl rfl rfl ⟨rfl,rfl,rfl,rfl,rfl⟩ rfl rfl rfl rfl rfl (by as_aux_lemma=>kernel_rfl) Tryz.func4 facts
  (of_decide_eq_true (by kernel_rfl)) (by unfold Func.isWrapper;first|(rw[if_pos (by decide +kernel)];kernel_rfl)|(rw[if_neg (by decide +kernel)];exact⟨rfl,rfl⟩))
  (λos started H enc _=>lifted os started H enc)
theorem wants(j:Nat)(t:TypeId)(h:Tryz.f4.params[j]?=some t):Tryz.prog.wantsStandIn t=false:=by
 rw[Tryz.params4]at h
 match j,h with
 |0,h=>exact(Option.some.inj h:28=t) ▸ (show Tryz.prog.wantsStandIn 28=false by kernel_rfl)
 |j+1,h=>cases h
theorem proved:Rows.StaticFollowsCardSaid:=
 Claim7.holds_tied_plain_at .later [] [.data,.data,.data,.data,.sentinel,.sentinel,.widerDeep,.pinned] true (true,"822cdc3b4fa89ec4aa9865422c8df1a4d4fab042ea44041ccdecd1bb9495fc46") true
  over (λ_ h=>by cases h) (by as_aux_lemma=>kernel_rfl) (λ_ h=>by cases h) staticFollows_row_tie rfl ⟨rfl,rfl⟩ (by as_aux_lemma=>kernel_rfl) rfl
  (λf fn hf hfn=>by
   obtain rfl:f=4:=Option.some.inj ((show Tryz.prog.funcNamed "hopscotch/hopscotchlaw19.StaticFollows" = some 4 by as_aux_lemma=>kernel_rfl).symm.trans hf) |>.symm
   obtain rfl:fn=Tryz.f4:=(Option.some.inj (Tryz.func4.symm.trans hfn)).symm
   exact⟨by as_aux_lemma=>kernel_rfl,λj t ht=>wants j t ht⟩)
  (by as_aux_lemma=>kernel_rfl)
#print axioms proved
end Go.Proofs.YtoahejkahaimnaaGreatDoor.staticFollows
