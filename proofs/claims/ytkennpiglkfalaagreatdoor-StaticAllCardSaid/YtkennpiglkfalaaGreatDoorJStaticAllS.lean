/- For every input JStaticAllS returns true, and its arguments read as before. No condition. -/
import Derived.Test.YtkennpiglkfalaaGreatDoorP52
import Derived.Test.YtkennpiglkfalaaGreatDoorTie
/- A part. No condition. -/
set_option linter.all false
open Bool renaming false->ab
open Go.Proofs.Tryz renaming prog->ai
open Go.Proofs.Tryz
namespace Go.Proofs.YtkennpiglkfalaaGreatDoor.staticAll
open Go.ChangeShapes Go.WideShapes Go.ChangeAt Go.RowKit Go.Hs
set_option linter.unusedVariables false
set_option maxRecDepth 100000
theorem lifted(os:Os)(started:os.Started)(H:Type)(enc:TypeId×Value->H):ReturnsInHanded {} Tryz.checked os 3 .any (λw args=>(Rows.staticAllSpec.pre enc ai Tryz.f3 Rows.staticAllRow.domain ab w args/\laidMet ai O9 w)/\sizedMet enc ai Tryz.f3 (OpenSpec.ofChange Rows.staticAllSpec) ab w args)
   (Rows.staticAllSpec.post enc ai Tryz.f3 ab true ab ab):=by
 refine o4 (C:=Tryz.checked) (X:=λw _=>laidMet ai O9 w) (λ_ _ _ hh h=>h.of_heap hh) own started (by kernel_rfl) func3
  (ChangeSpec.witness_at (enc:=enc) (C:=Tryz.checked) (os:=os) (X:=λw _=>laidMet ai O9 w) ab (kz os) #[.agg #[.string ⟨#[]⟩,.slice none 0 0,.slice none 0 0,.slice none 0 0,.slice none 0 0,.slice none 0 0],.int .i64 0] 8 rfl (by kernel_rfl) (by kernel_rfl) (by kernel_rfl) (by kernel_rfl) (by kernel_rfl) (qU os _)) ?_
 intro W base args ds gs before hS hval0 hW hz hL;have hval:∀ (j:Nat) t v,Tryz.f3.params[j]?=some t->args[j]?=some v->Value.okWide ai W .any base t v:=hval0;have hW':=hW;obtain⟨p,q,hA0,hV,rfl,hfz,hnd⟩:=hW;have hA:DataW.TrodAll enc ai W 0 (λ_=>true) true Tryz.f3.params.toList args.toList ds p:=hA0;rw[Tryz.params3]at hA hval;obtain⟨v0,vs0,d0,ds0,p0,q0,hargs,rfl,rfl,h0,r0⟩:=trodAll_cons hA;obtain⟨v1,vs1,d1,ds1,p1,q1,rfl,rfl,rfl,h1,r1⟩:=trodAll_cons r0;obtain⟨rfl,rfl,rfl⟩:=trodAll_nil r1
 obtain rfl:args = #[v0,v1]:=by cases args;simp_all
 obtain⟨rfl,rfl⟩:=trodVars_none hV;obtain⟨x0,i0,hx0⟩:=ABi (hval 0 28 v0 rfl rfl) h0 (G1 hz (j:=0) (t:=28) rfl rfl);obtain⟨x1,i1,hx1⟩:=ABj (hval 1 3 v1 rfl rfl) h1
 have hR:FA (Uv W) #[v0,v1] [Zw .old .old x0,V.int .i64 x1]:=by
  refine⟨rfl,λi k1 k2=>?_⟩
  match i,k1 with
  |0,_=>exact hx0
  |1,_=>exact hx1
 obtain⟨m,hG⟩:=ACR hL hS;refine(xh (rP (gE m) (ACC m) (ACD m) x0 (ACV i0) x1) hG hR).mono ?_;rintro e W' ⟨c,v,H',Y,rfl,hr,rfl,hB⟩;obtain rfl:=hr.bool_inv
 have hlt0:∀ x∈p0,x.block<W.heap.size:=λx hx=>by simpa using hW'.lt x (by simp[hx])
 have hlt1:∀ x∈p1,x.block<W.heap.size:=λx hx=>by simpa using hW'.lt x (by simp[hx])
 have k0:=Below.trod XW (by kernel_rfl) (JC (by kernel_rfl)) h0 hB hlt0;have k1:=Below.trod XW (by kernel_rfl) (JC (by kernel_rfl)) h1 hB hlt1;refine⟨_,rfl,_,_,_,[],p0++(p1++[]),[],hW',?_,?_,rfl,hB.frame _,λh=>by cases h⟩;exact trodAll_cons_mk (shut_bool underlying4 _) trodAll_mk0;exact trodAll_cons_mk k0 (trodAll_cons_mk k1 trodAll_mk0)
set_option maxHeartbeats 4000000 in
theorem facts:joinedFacts ai 3 Tryz.f3 Rows.staticAllSpec Rows.staticAllRow=true:=by unfold joinedFacts;simp only[BP];exact⟨⟨⟨⟨⟨⟨⟨⟨⟨⟨⟨⟨⟨⟨⟨⟨⟨⟨⟨⟨⟨⟨⟨⟨⟨⟨⟨⟨⟨⟨⟨(by as_aux_lemma=>kernel_rfl),XW⟩,ACq⟩,(by as_aux_lemma=>kernel_rfl)⟩,(by as_aux_lemma=>kernel_rfl)⟩,(by as_aux_lemma=>kernel_rfl)⟩,mU⟩,(by as_aux_lemma=>kernel_rfl)⟩,mu⟩,(by as_aux_lemma=>kernel_rfl)⟩,(by as_aux_lemma=>kernel_rfl)⟩,(by as_aux_lemma=>kernel_rfl)⟩,(by as_aux_lemma=>kernel_rfl)⟩,(by as_aux_lemma=>kernel_rfl)⟩,(by as_aux_lemma=>kernel_rfl)⟩,(by as_aux_lemma=>kernel_rfl)⟩,(by as_aux_lemma=>kernel_rfl)⟩,(by as_aux_lemma=>kernel_rfl)⟩,(by as_aux_lemma=>kernel_rfl)⟩,(by as_aux_lemma=>kernel_rfl)⟩,(by as_aux_lemma=>kernel_rfl)⟩,(by as_aux_lemma=>kernel_rfl)⟩,ACo⟩,(by as_aux_lemma=>kernel_rfl)⟩,nN⟩,ny⟩,xG⟩,ACp⟩,(by as_aux_lemma=>kernel_rfl)⟩,(by as_aux_lemma=>kernel_rfl)⟩,(by as_aux_lemma=>kernel_rfl)⟩,(by as_aux_lemma=>kernel_rfl)⟩
theorem over:Rows.staticAllRow.holds Tryz.pinned (OpenSpec.ofChange Rows.staticAllSpec):=
 OpenClaim.holds_of_wide 3 Tryz.f3 rfl rfl rfl rfl rfl rfl rfl ⟨rfl,rfl,rfl,rfl,rfl⟩ rfl rfl rfl rfl rfl (by as_aux_lemma=>kernel_rfl) func3 facts
  (JC (by kernel_rfl)) (by unfold Func.isWrapper;first|(rw[AF (by decide +kernel)];kernel_rfl)|(rw[AA (by decide +kernel)];exact⟨rfl,rfl⟩))
  (λos started H enc _=>lifted os started H enc)
theorem wants(j:Nat)(t:TypeId)(h:Tryz.f3.params[j]?=some t):ai.wantsStandIn t=ab:=by
 rw[Tryz.params3]at h
 match j,h with
 |0,h=>exact(EY h:28=t) ▸ (show ai.wantsStandIn 28=ab by kernel_rfl)
 |1,h=>exact(EY h:3=t) ▸ (show ai.wantsStandIn 3=ab by kernel_rfl)
 |j+2,h=>cases h
theorem proved:Rows.StaticAllCardSaid:=
 Claim7.holds_tied_plain_at .later [] [.data,.data,.data,.data,.sentinel,.sentinel,.widerDeep,.pinned] true (true,"8a69ddda804ad0072fa3535ec6b66de0fb3a34f8784f6bf9d089661b505499ba") true
  over (λ_ h=>by cases h) (by as_aux_lemma=>kernel_rfl) (λ_ h=>by cases h) staticAll_row_tie rfl ⟨rfl,rfl⟩ (by as_aux_lemma=>kernel_rfl) rfl
  (λf fn hf hfn=>by
   obtain rfl:f=3:=EY ((show ai.funcNamed "hopscotch/hopscotchlaw19.StaticAll" = some 3 by as_aux_lemma=>kernel_rfl).symm.trans hf) |>.symm
   obtain rfl:fn=Tryz.f3:=(EY (func3.symm.trans hfn)).symm
   exact⟨by as_aux_lemma=>kernel_rfl,λj t ht=>wants j t ht⟩)
  (by as_aux_lemma=>kernel_rfl)
#print axioms proved
