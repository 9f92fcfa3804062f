/- For every input KCompileLeavesS returns true, and its arguments read as before. No condition. -/
/- A part. No condition. -/
import Derived.Test.YtjplgaebbfabnaaGreatDoorP53
import Derived.Test.YtjplgaebbfabnaaGreatDoorTie
set_option linter.all false
namespace Go.Proofs.YtjplgaebbfabnaaGreatDoor.compileLeaves
open Go.ChangeShapes Go.WideShapes Go.ChangeAt Go.RowKit Go.Hs
set_option linter.unusedVariables false
set_option maxRecDepth 100000
theorem lifted(os:Os)(started:os.Started)(H:Type)(enc:TypeId×Value->H):
  ReturnsInHanded {} Tryz.checked os 3 .any (λw args=>(Rows.compileLeavesSpec.pre enc Tryz.prog Tryz.f3 Rows.compileLeavesRow.domain false w args/\laidMet Tryz.prog Pu w)/\sizedMet enc Tryz.prog Tryz.f3 (OpenSpec.ofChange Rows.compileLeavesSpec) false w args)
   (Rows.compileLeavesSpec.post enc Tryz.prog Tryz.f3 false true false false):=by
 refine Zxs (C:=Tryz.checked) (X:=λw _=>laidMet Tryz.prog Pu w) (λ_ _ _ hh h=>h.of_heap hh) own started (by kernel_rfl) Tryz.func3
  (ChangeSpec.witness_at (enc:=enc) (C:=Tryz.checked) (os:=os) (X:=λw _=>laidMet Tryz.prog Pu w) false (laidWorld os) #[.agg #[.string ⟨#[]⟩,.slice none 0 0,.slice none 0 0,.slice none 0 0,.slice none 0 0,.slice none 0 0],.agg #[.slice none 0 0,.slice none 0 0],.int .i64 0,.int .i64 0] 8 rfl (by kernel_rfl) (by kernel_rfl) (by kernel_rfl) (by kernel_rfl) (by kernel_rfl) (Ar os _)) ?_
 intro W base args ds gs before hS hval0 hW hz hL;have hval:∀ (j:Nat) t v,Tryz.f3.params[j]?=some t->args[j]?=some v->Value.okWide Tryz.prog W .any base t v:=hval0;have hW':=hW;obtain⟨p,q,hA0,hV,rfl,hfz,hnd⟩:=hW;have hA:DataW.TrodAll enc Tryz.prog W 0 (λ_=>true) true Tryz.f3.params.toList args.toList ds p:=hA0;rw[Tryz.params3]at hA hval;obtain⟨v0,vs0,d0,ds0,p0,q0,hargs,rfl,rfl,h0,r0⟩:=trodAll_cons hA;obtain⟨v1,vs1,d1,ds1,p1,q1,rfl,rfl,rfl,h1,r1⟩:=trodAll_cons r0;obtain⟨v2,vs2,d2,ds2,p2,q2,rfl,rfl,rfl,h2,r2⟩:=trodAll_cons r1;obtain⟨v3,vs3,d3,ds3,p3,q3,rfl,rfl,rfl,h3,r3⟩:=trodAll_cons r2;obtain⟨rfl,rfl,rfl⟩:=trodAll_nil r3
 obtain rfl:args = #[v0,v1,v2,v3]:=by cases args;simp_all
 obtain⟨rfl,rfl⟩:=trodVars_none hV;obtain⟨x0,i0,hx0⟩:=argD (hval 0 28 v0 rfl rfl) h0 (Ji hz (j:=0) (t:=28) rfl rfl);obtain⟨x1,hx1⟩:=argC (hval 1 31 v1 rfl rfl) h1;obtain⟨x2,i2,hx2⟩:=argI (hval 2 3 v2 rfl rfl) h2;obtain⟨x3,i3,hx3⟩:=argI (hval 3 3 v3 rfl rfl) h3
 have hR:RelA (Wj W) #[v0,v1,v2,v3] [Zw .old .old x0,Td .old x1.1 x1.2,V.int .i64 x2,V.int .i64 x3]:=by
  refine⟨rfl,λi k1 k2=>?_⟩
  match i,k1 with
  |0,_=>exact hx0
  |1,_=>exact hx1
  |2,_=>exact hx2
  |3,_=>exact hx3
 obtain⟨m,hG⟩:=laid_G hL hS;refine(A5 (Cw (gE m) (Zlca m) (Zxb (gE m) (Zlca m)) x0 (mdOk_r i0) x1.1 x1.2 x2 x3 i2 i3) hG hR).mono ?_;rintro e W' ⟨c,v,H',Y,rfl,hr,rfl,hB⟩;obtain rfl:=hr.bool_inv
 have hlt0:∀ x∈p0,x.block<W.heap.size:=λx hx=>by simpa using hW'.lt x (by simp[hx])
 have hlt1:∀ x∈p1,x.block<W.heap.size:=λx hx=>by simpa using hW'.lt x (by simp[hx])
 have hlt2:∀ x∈p2,x.block<W.heap.size:=λx hx=>by simpa using hW'.lt x (by simp[hx])
 have hlt3:∀ x∈p3,x.block<W.heap.size:=λx hx=>by simpa using hW'.lt x (by simp[hx])
 have k0:=Below.trod J9 (by kernel_rfl) (of_decide_eq_true (by kernel_rfl)) h0 hB hlt0;have k1:=Below.trod J9 (by kernel_rfl) (of_decide_eq_true (by kernel_rfl)) h1 hB hlt1;have k2:=Below.trod J9 (by kernel_rfl) (of_decide_eq_true (by kernel_rfl)) h2 hB hlt2;have k3:=Below.trod J9 (by kernel_rfl) (of_decide_eq_true (by kernel_rfl)) h3 hB hlt3;refine⟨_,rfl,_,_,_,[],p0++(p1++(p2++(p3++[]))),[],hW',?_,?_,rfl,hB.frame _,λh=>by cases h⟩;exact trodAll_cons_mk (shut_bool Tryz.underlying4 _) trodAll_mk0;exact trodAll_cons_mk k0 (trodAll_cons_mk k1 (trodAll_cons_mk k2 (trodAll_cons_mk k3 trodAll_mk0)))
set_option maxHeartbeats 4000000 in
theorem facts:joinedFacts Tryz.prog 3 Tryz.f3 Rows.compileLeavesSpec Rows.compileLeavesRow=true:=by
 unfold joinedFacts;simp only[Bool.and_eq_true];exact⟨⟨⟨⟨⟨⟨⟨⟨⟨⟨⟨⟨⟨⟨⟨⟨⟨⟨⟨⟨⟨⟨⟨⟨⟨⟨⟨⟨⟨⟨⟨(by as_aux_lemma=>kernel_rfl),J9⟩,sfMaps⟩,(by as_aux_lemma=>kernel_rfl)⟩,(by as_aux_lemma=>kernel_rfl)⟩,(by as_aux_lemma=>kernel_rfl)⟩,Z79⟩,(by as_aux_lemma=>kernel_rfl)⟩,Z89⟩,(by as_aux_lemma=>kernel_rfl)⟩,(by as_aux_lemma=>kernel_rfl)⟩,(by as_aux_lemma=>kernel_rfl)⟩,(by as_aux_lemma=>kernel_rfl)⟩,(by as_aux_lemma=>kernel_rfl)⟩,(by as_aux_lemma=>kernel_rfl)⟩,(by as_aux_lemma=>kernel_rfl)⟩,(by as_aux_lemma=>kernel_rfl)⟩,(by as_aux_lemma=>kernel_rfl)⟩,(by as_aux_lemma=>kernel_rfl)⟩,(by as_aux_lemma=>kernel_rfl)⟩,(by as_aux_lemma=>kernel_rfl)⟩,(by as_aux_lemma=>kernel_rfl)⟩,sfKeys⟩,(by as_aux_lemma=>kernel_rfl)⟩,Z99⟩,Zaaa⟩,Zs5⟩,sfMake⟩,(by as_aux_lemma=>kernel_rfl)⟩,(by as_aux_lemma=>kernel_rfl)⟩,(by as_aux_lemma=>kernel_rfl)⟩,(by as_aux_lemma=>kernel_rfl)⟩
theorem over:Rows.compileLeavesRow.holds Tryz.pinned (OpenSpec.ofChange Rows.compileLeavesSpec):=
 OpenClaim.holds_of_wide 3 Tryz.f3 rfl rfl rfl rfl rfl rfl rfl ⟨rfl,rfl,rfl,rfl,rfl⟩ rfl rfl rfl rfl rfl (by as_aux_lemma=>kernel_rfl) Tryz.func3 facts
  (of_decide_eq_true (by kernel_rfl)) (by unfold Func.isWrapper;first|(rw[if_pos (by decide +kernel)];kernel_rfl)|(rw[if_neg (by decide +kernel)];exact⟨rfl,rfl⟩))
  (λos started H enc _=>lifted os started H enc)
theorem wants(j:Nat)(t:TypeId)(h:Tryz.f3.params[j]?=some t):Tryz.prog.wantsStandIn t=false:=by
 rw[Tryz.params3]at h
 match j,h with
 |0,h=>exact(Option.some.inj h:28=t) ▸ (show Tryz.prog.wantsStandIn 28=false by kernel_rfl)
 |1,h=>exact(Option.some.inj h:31=t) ▸ (show Tryz.prog.wantsStandIn 31=false by kernel_rfl)
 |2,h=>exact(Option.some.inj h:3=t) ▸ (show Tryz.prog.wantsStandIn 3=false by kernel_rfl)
 |3,h=>exact(Option.some.inj h:3=t) ▸ (show Tryz.prog.wantsStandIn 3=false by kernel_rfl)
 |j+4,h=>cases h
theorem proved:Rows.CompileLeavesCardSaid:=
 Claim7.holds_tied_plain_at .later [] [.data,.data,.data,.data,.sentinel,.sentinel,.widerDeep,.pinned] true (true,"a71eaf3f0b03402b5c991e1651e0438fada9303e26a420c3fd4ea95f310d889e") true
  over (λ_ h=>by cases h) (by as_aux_lemma=>kernel_rfl) (λ_ h=>by cases h) compileLeaves_row_tie rfl ⟨rfl,rfl⟩ (by as_aux_lemma=>kernel_rfl) rfl
  (λf fn hf hfn=>by
   obtain rfl:f=3:=Option.some.inj ((show Tryz.prog.funcNamed "hopscotch/hopscotchlaw23.CompileLeaves" = some 3 by as_aux_lemma=>kernel_rfl).symm.trans hf) |>.symm
   obtain rfl:fn=Tryz.f3:=(Option.some.inj (Tryz.func3.symm.trans hfn)).symm
   exact⟨by as_aux_lemma=>kernel_rfl,λj t ht=>wants j t ht⟩)
  (by as_aux_lemma=>kernel_rfl)
#print axioms proved
end Go.Proofs.YtjplgaebbfabnaaGreatDoor.compileLeaves
