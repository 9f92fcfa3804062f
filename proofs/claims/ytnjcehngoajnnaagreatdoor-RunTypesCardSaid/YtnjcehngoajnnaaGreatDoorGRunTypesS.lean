/- For every input GRunTypesS returns true, and its arguments read as before. No condition. -/
/- Part 53 of the proof of a statement of seat YtnjcehngoajnnaaGreatDoor: HsGRunTypesS. -/
import Derived.Test.YtnjcehngoajnnaaGreatDoorPart52
import Derived.Test.YtnjcehngoajnnaaGreatDoorTie
import Derived.Test.YtnjcehngoajnnaaGreatDoorCards
set_option linter.unusedSimpArgs false
set_option linter.unusedVariables false
section
namespace Go.Proofs.YtnjcehngoajnnaaGreatDoor.runTypes
open Go.ChangeShapes Go.WideShapes Go.ChangeAt Go.RowKit Go.Hs
set_option linter.unusedVariables false
set_option maxRecDepth 100000
theorem lifted (os:Os) (started:os.Started) (H:Type) (enc:TypeId × Value→H) :
  ReturnsInHanded {} Tryz.checked os 11 .any (fun w args=>(Rows.runTypesSpec.pre enc Tryz.prog Tryz.f11 Rows.runTypesRow.domain false w args∧laidMet Tryz.prog Zkg w)∧sizedMet enc Tryz.prog Tryz.f11 (OpenSpec.ofChange Rows.runTypesSpec) false w args)
   (Rows.runTypesSpec.post enc Tryz.prog Tryz.f11 false true false false):=by
 refine Zzv (C:=Tryz.checked) (X:=fun w _=>laidMet Tryz.prog Zkg w) (fun _ _ _ hh h=>h.of_heap hh) own started (by kernel_rfl) Tryz.func11
  (ChangeSpec.witness_at (enc:=enc) (C:=Tryz.checked) (os:=os) (X:=fun w _=>laidMet Tryz.prog Zkg w) false (laidWorld os) #[.agg #[.slice none 0 0],.slice none 0 0,.int .i64 0,.slice none 0 0] 8 rfl (by kernel_rfl) (by kernel_rfl) (by kernel_rfl) (by kernel_rfl) (by kernel_rfl) (Zqp os _)) ?_
 intro W base args ds gs before hS hval0 hW hL;have hval:∀ (j:Nat) t v,Tryz.f11.params[j]? = some t→args[j]? = some v→Value.okWide Tryz.prog W .any base t v:=hval0;have hW':=hW;obtain ⟨p,q,hA0,hV,rfl,hfz,hnd⟩:=hW;have hA:DataW.TrodAll enc Tryz.prog W 0 (fun _=>true) true Tryz.f11.params.toList args.toList ds p:=hA0;rw [Tryz.params11] at hA hval;obtain ⟨v0,vs0,d0,ds0,p0,q0,hargs,rfl,rfl,h0,r0⟩:=trodAll_cons hA;obtain ⟨v1,vs1,d1,ds1,p1,q1,rfl,rfl,rfl,h1,r1⟩:=trodAll_cons r0;obtain ⟨v2,vs2,d2,ds2,p2,q2,rfl,rfl,rfl,h2,r2⟩:=trodAll_cons r1;obtain ⟨v3,vs3,d3,ds3,p3,q3,rfl,rfl,rfl,h3,r3⟩:=trodAll_cons r2;obtain ⟨rfl,rfl,rfl⟩:=trodAll_nil r3
 obtain rfl:args = #[v0,v1,v2,v3]:=by cases args;simp_all
 obtain ⟨rfl,rfl⟩:=trodVars_none hV;obtain ⟨x0,i0,hx0⟩:=argB (hval 0 63 v0 rfl rfl) h0;obtain ⟨x1,i1,hx1⟩:=argN (hval 1 25 v1 rfl rfl) h1;obtain ⟨x2,i2,hx2⟩:=argJ (hval 2 2 v2 rfl rfl) h2;obtain ⟨x3,hx3⟩:=argL (hval 3 53 v3 rfl rfl) h3
 have hR:RelA (Zfb W) #[v0,v1,v2,v3] [.agg [Za .old 3 (Zia .old) x0],Za .old 2 Zz x1,V.int .i64 x2,Za .old 1 V.str x3]:=by
  refine ⟨rfl,fun i k1 k2=>?_⟩
  match i,k1 with
  | 0,_=>exact hx0
  | 1,_=>exact hx1
  | 2,_=>exact hx2
  | 3,_=>exact hx3
 obtain ⟨m,hG⟩:=laid_G hL hS;refine (Zjr (Z32 (gE m) (gE_ok m) .old .old .old .old x0 (Zh3 i0) x1 i1 x2 i2 x3) hG hR).mono ?_;rintro e W' ⟨c,v,H',Y,rfl,hr,rfl,hB⟩;obtain rfl:=hr.bool_inv
 have hlt0:∀ x∈p0,x.block<W.heap.size:=fun x hx=>by simpa using hW'.lt x (by simp [hx])
 have hlt1:∀ x∈p1,x.block<W.heap.size:=fun x hx=>by simpa using hW'.lt x (by simp [hx])
 have hlt2:∀ x∈p2,x.block<W.heap.size:=fun x hx=>by simpa using hW'.lt x (by simp [hx])
 have hlt3:∀ x∈p3,x.block<W.heap.size:=fun x hx=>by simpa using hW'.lt x (by simp [hx])
 have k0:=Below.trod Zdm (by kernel_rfl) (of_decide_eq_true (by kernel_rfl)) h0 hB hlt0;have k1:=Below.trod Zdm (by kernel_rfl) (of_decide_eq_true (by kernel_rfl)) h1 hB hlt1;have k2:=Below.trod Zdm (by kernel_rfl) (of_decide_eq_true (by kernel_rfl)) h2 hB hlt2;have k3:=Below.trod Zdm (by kernel_rfl) (of_decide_eq_true (by kernel_rfl)) h3 hB hlt3;refine ⟨_,rfl,_,_,_,[],p0++(p1++(p2++(p3++[]))),[],hW',?_,?_,rfl,hB.frame _,fun h=>by cases h⟩
 ·exact trodAll_cons_mk (shut_bool Tryz.underlying4 _) trodAll_mk0
 ·exact trodAll_cons_mk k0 (trodAll_cons_mk k1 (trodAll_cons_mk k2 (trodAll_cons_mk k3 trodAll_mk0)))
set_option maxHeartbeats 4000000 in
theorem facts:joinedFacts Tryz.prog 11 Tryz.f11 Rows.runTypesSpec Rows.runTypesRow=true:=by
 unfold joinedFacts;simp only [Bool.and_eq_true];exact ⟨⟨⟨⟨⟨⟨⟨⟨⟨⟨⟨⟨⟨⟨⟨⟨⟨⟨⟨⟨⟨⟨⟨⟨⟨⟨⟨⟨⟨⟨⟨(by as_aux_lemma=>kernel_rfl),Zdm⟩,sfMaps⟩,(by as_aux_lemma=>kernel_rfl)⟩,(by as_aux_lemma=>kernel_rfl)⟩,(by as_aux_lemma=>kernel_rfl)⟩,sfStops⟩,(by as_aux_lemma=>kernel_rfl)⟩,sfKnobs⟩,(by as_aux_lemma=>kernel_rfl)⟩,(by as_aux_lemma=>kernel_rfl)⟩,(by as_aux_lemma=>kernel_rfl)⟩,(by as_aux_lemma=>kernel_rfl)⟩,(by as_aux_lemma=>kernel_rfl)⟩,(by as_aux_lemma=>kernel_rfl)⟩,(by as_aux_lemma=>kernel_rfl)⟩,(by as_aux_lemma=>kernel_rfl)⟩,(by as_aux_lemma=>kernel_rfl)⟩,(by as_aux_lemma=>kernel_rfl)⟩,(by as_aux_lemma=>kernel_rfl)⟩,(by as_aux_lemma=>kernel_rfl)⟩,(by as_aux_lemma=>kernel_rfl)⟩,sfKeys⟩,(by as_aux_lemma=>kernel_rfl)⟩,sfHeard⟩,sfEnter⟩,Zn5⟩,sfMake⟩,(by as_aux_lemma=>kernel_rfl)⟩,(by as_aux_lemma=>kernel_rfl)⟩,(by as_aux_lemma=>kernel_rfl)⟩,(by as_aux_lemma=>kernel_rfl)⟩
theorem over:Rows.runTypesRow.holds Tryz.pinned (OpenSpec.ofChange Rows.runTypesSpec) :=
 OpenClaim.holds_of_wide 11 Tryz.f11 rfl rfl rfl rfl rfl rfl rfl ⟨rfl,rfl,rfl,rfl,rfl⟩ rfl rfl rfl rfl rfl (by as_aux_lemma=>kernel_rfl) Tryz.func11 facts
  (of_decide_eq_true (by kernel_rfl)) (by unfold Func.isWrapper;first | (rw [if_pos (by decide +kernel)];kernel_rfl) | (rw [if_neg (by decide +kernel)];exact ⟨rfl,rfl⟩))
  (fun os started H enc _=>lifted os started H enc)
theorem wants (j:Nat) (t:TypeId) (h:Tryz.f11.params[j]? = some t):Tryz.prog.wantsStandIn t=false:=by
 rw [Tryz.params11] at h
 match j,h with
 | 0,h=>exact (Option.some.inj h:63=t) ▸ (show Tryz.prog.wantsStandIn 63=false by kernel_rfl)
 | 1,h=>exact (Option.some.inj h:25=t) ▸ (show Tryz.prog.wantsStandIn 25=false by kernel_rfl)
 | 2,h=>exact (Option.some.inj h:2=t) ▸ (show Tryz.prog.wantsStandIn 2=false by kernel_rfl)
 | 3,h=>exact (Option.some.inj h:53=t) ▸ (show Tryz.prog.wantsStandIn 53=false by kernel_rfl)
 | j+4,h=>cases h
theorem proved:Rows.RunTypesCardSaid :=
 Claim7.holds_tied_plain_at .later [] [.data,.data,.data,.data,.sentinel,.sentinel,.widerDeep,.pinned] true (true,"79a15f59ef6ebe220c04710760e2448855e589ec49af8e3321be16fce429ac7d") true
  over (fun _ h=>by cases h) (by as_aux_lemma=>kernel_rfl) (fun _ h=>by cases h) runTypes_row_tie rfl ⟨rfl,rfl⟩ (by as_aux_lemma=>kernel_rfl) rfl
  (fun f fn hf hfn=>by
   obtain rfl:f=11:=Option.some.inj ((show Tryz.prog.funcNamed "hopscotch/hopscotchlaw12.RunTypes" = some 11 by as_aux_lemma=>kernel_rfl).symm.trans hf) |>.symm
   obtain rfl:fn=Tryz.f11:=(Option.some.inj (Tryz.func11.symm.trans hfn)).symm
   exact ⟨by as_aux_lemma=>kernel_rfl,fun j t ht=>wants j t ht⟩)
  (by as_aux_lemma=>kernel_rfl)
#print axioms proved
end Go.Proofs.YtnjcehngoajnnaaGreatDoor.runTypes
end
