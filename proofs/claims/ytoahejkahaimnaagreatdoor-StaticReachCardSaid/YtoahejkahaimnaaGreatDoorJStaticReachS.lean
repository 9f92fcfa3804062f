/- For every input JStaticReachS returns true, and its arguments read as before. No condition. -/
/- A part. No condition. -/
import Derived.Test.YtoahejkahaimnaaGreatDoorP53
import Derived.Test.YtoahejkahaimnaaGreatDoorTie
set_option linter.all false
namespace Go.Proofs.YtoahejkahaimnaaGreatDoor.staticReach
open Go.ChangeShapes Go.WideShapes Go.ChangeAt Go.RowKit Go.Hs
set_option linter.unusedVariables false
set_option maxRecDepth 100000
theorem lifted(os:Os)(started:os.Started)(H:Type)(enc:TypeId×Value->H):
  ReturnsInHanded {} Tryz.checked os 5 .any (λw args=>(Rows.staticReachSpec.pre enc Tryz.prog Tryz.f5 Rows.staticReachRow.domain false w args/\laidMet Tryz.prog Zeh w)/\sizedMet enc Tryz.prog Tryz.f5 (OpenSpec.ofChange Rows.staticReachSpec) false w args)
   (Rows.staticReachSpec.post enc Tryz.prog Tryz.f5 false true false false):=by
 refine Zv9 (C:=Tryz.checked) (X:=λw _=>laidMet Tryz.prog Zeh w) (λ_ _ _ hh h=>h.of_heap hh) own started (by kernel_rfl) Tryz.func5
  (ChangeSpec.witness_at (enc:=enc) (C:=Tryz.checked) (os:=os) (X:=λw _=>laidMet Tryz.prog Zeh w) false (laidWorld os) #[.agg #[.string ⟨#[]⟩,.slice none 0 0,.slice none 0 0,.slice none 0 0,.slice none 0 0,.slice none 0 0]] 8 rfl (by kernel_rfl) (by kernel_rfl) (by kernel_rfl) (by kernel_rfl) (by kernel_rfl) (Z1s os _)) ?_
 intro W base args ds gs before hS hval0 hW hz hL;have hval:∀ (j:Nat) t v,Tryz.f5.params[j]?=some t->args[j]?=some v->Value.okWide Tryz.prog W .any base t v:=hval0;have hW':=hW;obtain⟨p,q,hA0,hV,rfl,hfz,hnd⟩:=hW;have hA:DataW.TrodAll enc Tryz.prog W 0 (λ_=>true) true Tryz.f5.params.toList args.toList ds p:=hA0;rw[Tryz.params5]at hA hval;obtain⟨v0,vs0,d0,ds0,p0,q0,hargs,rfl,rfl,h0,r0⟩:=trodAll_cons hA;obtain⟨rfl,rfl,rfl⟩:=trodAll_nil r0
 obtain rfl:args = #[v0]:=by cases args;simp_all
 obtain⟨rfl,rfl⟩:=trodVars_none hV;obtain⟨x0,i0,hx0⟩:=argD (hval 0 28 v0 rfl rfl) h0 (Zql hz (j:=0) (t:=28) rfl rfl)
 have hR:RelA (Z9b W) #[v0] [Z4 .old .old x0]:=by
  refine⟨rfl,λi k1 k2=>?_⟩
  match i,k1 with
  |0,_=>exact hx0
 obtain⟨m,hG⟩:=laid_G hL hS;refine(Zrt (Z8u (gE m) (gE_ok m) x0 (mdOk_r i0)) hG hR).mono ?_;rintro e W' ⟨c,v,H',Y,rfl,hr,rfl,hB⟩;obtain rfl:=hr.bool_inv
 have hlt0:∀ x∈p0,x.block<W.heap.size:=λx hx=>by simpa using hW'.lt x (by simp[hx])
 have k0:=Below.trod Zgga (by kernel_rfl) (of_decide_eq_true (by kernel_rfl)) h0 hB hlt0;refine⟨_,rfl,_,_,_,[],p0++[],[],hW',?_,?_,rfl,hB.frame _,λh=>by cases h⟩;exact trodAll_cons_mk (shut_bool Tryz.underlying4 _) trodAll_mk0;exact trodAll_cons_mk k0 trodAll_mk0
set_option maxHeartbeats 4000000 in
theorem facts:joinedFacts Tryz.prog 5 Tryz.f5 Rows.staticReachSpec Rows.staticReachRow=true:=by
 unfold joinedFacts;simp only[Bool.and_eq_true];exact⟨⟨⟨⟨⟨⟨⟨⟨⟨⟨⟨⟨⟨⟨⟨⟨⟨⟨⟨⟨⟨⟨⟨⟨⟨⟨⟨⟨⟨⟨⟨(by as_aux_lemma=>kernel_rfl),Zgga⟩,sfMaps⟩,(by as_aux_lemma=>kernel_rfl)⟩,(by as_aux_lemma=>kernel_rfl)⟩,(by as_aux_lemma=>kernel_rfl)⟩,sfStops⟩,(by as_aux_lemma=>kernel_rfl)⟩,sfKnobs⟩,(by as_aux_lemma=>kernel_rfl)⟩,(by as_aux_lemma=>kernel_rfl)⟩,(by as_aux_lemma=>kernel_rfl)⟩,(by as_aux_lemma=>kernel_rfl)⟩,(by as_aux_lemma=>kernel_rfl)⟩,(by as_aux_lemma=>kernel_rfl)⟩,(by as_aux_lemma=>kernel_rfl)⟩,(by as_aux_lemma=>kernel_rfl)⟩,(by as_aux_lemma=>kernel_rfl)⟩,(by as_aux_lemma=>kernel_rfl)⟩,(by as_aux_lemma=>kernel_rfl)⟩,(by as_aux_lemma=>kernel_rfl)⟩,(by as_aux_lemma=>kernel_rfl)⟩,sfKeys⟩,(by as_aux_lemma=>kernel_rfl)⟩,sfHeard⟩,sfEnter⟩,Z1ka⟩,sfMake⟩,(by as_aux_lemma=>kernel_rfl)⟩,(by as_aux_lemma=>kernel_rfl)⟩,(by as_aux_lemma=>kernel_rfl)⟩,(by as_aux_lemma=>kernel_rfl)⟩
theorem over:Rows.staticReachRow.holds Tryz.pinned (OpenSpec.ofChange Rows.staticReachSpec):=
 OpenClaim.holds_of_wide 5 Tryz.f5 rfl rfl rfl rfl rfl rfl rfl ⟨rfl,rfl,rfl,rfl,rfl⟩ rfl rfl rfl rfl rfl (by as_aux_lemma=>kernel_rfl) Tryz.func5 facts
  (of_decide_eq_true (by kernel_rfl)) (by unfold Func.isWrapper;first|(rw[if_pos (by decide +kernel)];kernel_rfl)|(rw[if_neg (by decide +kernel)];exact⟨rfl,rfl⟩))
  (λos started H enc _=>lifted os started H enc)
theorem wants(j:Nat)(t:TypeId)(h:Tryz.f5.params[j]?=some t):Tryz.prog.wantsStandIn t=false:=by
 rw[Tryz.params5]at h
 match j,h with
 |0,h=>exact(Option.some.inj h:28=t) ▸ (show Tryz.prog.wantsStandIn 28=false by kernel_rfl)
 |j+1,h=>cases h
theorem proved:Rows.StaticReachCardSaid:=
 Claim7.holds_tied_plain_at .later [] [.data,.data,.data,.data,.sentinel,.sentinel,.widerDeep,.pinned] true (true,"822cdc3b4fa89ec4aa9865422c8df1a4d4fab042ea44041ccdecd1bb9495fc46") true
  over (λ_ h=>by cases h) (by as_aux_lemma=>kernel_rfl) (λ_ h=>by cases h) staticReach_row_tie rfl ⟨rfl,rfl⟩ (by as_aux_lemma=>kernel_rfl) rfl
  (λf fn hf hfn=>by
   obtain rfl:f=5:=Option.some.inj ((show Tryz.prog.funcNamed "hopscotch/hopscotchlaw19.StaticReach" = some 5 by as_aux_lemma=>kernel_rfl).symm.trans hf) |>.symm
   obtain rfl:fn=Tryz.f5:=(Option.some.inj (Tryz.func5.symm.trans hfn)).symm
   exact⟨by as_aux_lemma=>kernel_rfl,λj t ht=>wants j t ht⟩)
  (by as_aux_lemma=>kernel_rfl)
#print axioms proved
end Go.Proofs.YtoahejkahaimnaaGreatDoor.staticReach
