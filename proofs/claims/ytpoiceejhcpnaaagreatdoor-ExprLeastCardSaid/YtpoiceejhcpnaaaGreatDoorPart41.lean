/- Part 41 of the proof of a statement of seat YtpoiceejhcpnaaaGreatDoor: HsExprNm HsEExprFr HsEExprPa HsEPrtP HsERedR4 HsERedR5. -/
import Derived.Test.YtpoiceejhcpnaaaGreatDoorPart39
import Derived.Test.YtpoiceejhcpnaaaGreatDoorPart40
import Derived.Test.YtpoiceejhcpnaaaGreatDoorPart38
import Derived.Test.YtpoiceejhcpnaaaGreatDoorPart37
set_option linter.unusedSimpArgs false
set_option linter.unusedVariables false
section
namespace Go.Hs
def NmQ (Q:List UInt8→Prop) (r:RS):Prop:=∀ n∈r.nodes,Q n.name
def NmI (Q:List UInt8→Prop) (inner:Inner):Prop:=∀ n r,NmQ Q r→NmQ Q (inner n r).2
theorem NmQ.put {Q:List UInt8→Prop} {r:RS} {n:XN} (h:NmQ Q r) (hn:Q n.name):NmQ Q (r.put n):=by
 intro m hm
 rcases List.mem_append.1 hm with h1 | h1
 ·exact h m h1
 ·rw [List.mem_singleton.1 h1];exact hn
theorem andThen_nm {Q:List UInt8→Prop} {x:Bool × RS} {k:RS→Bool × RS} (h:NmQ Q x.2) (hk:∀ r,NmQ Q r→NmQ Q (k r).2):NmQ Q (andThen x k).2:=by
 obtain ⟨b,r⟩:=x
 cases b
 ·exact h
 ·exact hk r h
theorem eatP_nm {Q:List UInt8→Prop} (l:List Tk) (w:List UInt8) {r:RS} (h:NmQ Q r):NmQ Q (eatP l w r).2:=by
 unfold eatP;split<;>exact h
theorem numberP_nm {Q:List UInt8→Prop} (h0:Q []) (t:List UInt8) {r:RS} (h:NmQ Q r):NmQ Q (numberP r t).2:=by
 unfold numberP;split
 ·exact h
 ·exact NmQ.put (n:=⟨1,_,[],-1,-1,-1⟩) h h0
theorem branchesP_nm {Q:List UInt8→Prop} {l:List Tk} {inner:Inner} (h0:Q []) (hi:NmI Q inner) {r:RS} (h:NmQ Q r):NmQ Q (branchesP l inner r).2:=by
 unfold branchesP
 refine andThen_nm (eatP_nm _ _ h) fun r1 h1=>andThen_nm (hi _ _ h1) fun a h2=>andThen_nm (eatP_nm _ _ h2) fun r2 h3=>andThen_nm (hi _ _ h3) fun b h4=>andThen_nm (eatP_nm _ _ h4) fun r3 h5=>andThen_nm (hi _ _ h5) fun c h6=>andThen_nm (eatP_nm _ _ h6) fun r4 h7=>?_
 exact NmQ.put h7 h0
theorem aheadP_nm {Q:List UInt8→Prop} {l:List Tk} {inner:Inner} (h0:Q []) (hq:∀ i,(nextP l i).kind=2→Q (nextP l i).text) (hi:NmI Q inner) {r:RS} (h:NmQ Q r):NmQ Q (aheadP l inner r).2:=by
 unfold aheadP
 split
 ·exact numberP_nm h0 _ h
 split
 ·rename_i hk;exact NmQ.put (n:=⟨2,0,(nextP l r.i).text,-1,-1,-1⟩) h (hq _ hk)
 split
 ·exact h
 split
 ·exact andThen_nm (hi _ _ h) fun a ha=>NmQ.put ha h0
 split
 ·exact andThen_nm (hi _ _ h) fun a ha=>eatP_nm _ _ ha
 split
 ·exact branchesP_nm h0 hi h
 split
 ·exact NmQ.put (n:=⟨_,0,[],-1,-1,-1⟩) h h0
 ·exact h
theorem loopP_nm {Q:List UInt8→Prop} {l:List Tk} {inner:Inner} (h0:Q []) (hi:NmI Q inner) (n:Int):∀ (m:Nat) (r:RS),NmQ Q r→NmQ Q (loopP l inner n m r).2
 | 0,r,h=>h
 | m+1,r,h=>by
  rw [loopP]
  split
  ·exact h
  ·split
   ·exact h
   ·exact andThen_nm (hi _ r.adv h) fun a ha=>loopP_nm h0 hi n m (a.put _) (NmQ.put ha h0)
theorem climbP_nm {Q:List UInt8→Prop} (l:List Tk) (h0:Q []) (hq:∀ i,(nextP l i).kind=2→Q (nextP l i).text):∀ f,NmI Q (climbP l f)
 | 0=>fun _ _ h=>h
 | f+1=>fun n r h=>by
  rw [climbP]
  exact andThen_nm (aheadP_nm h0 hq (climbP_nm l h0 hq f) h) fun a ha=>loopP_nm h0 (climbP_nm l h0 hq f) n _ a ha
end Go.Hs
end

section
namespace Go.Hs
open Go.Proofs
set_option maxRecDepth 10000
theorem RdS.callN {NO:Nat} {tl:List V} {G:Nat→V} (hG:GOk G) {f:FuncId} {args args':List V} {sl:Sl Tk} {g:Nat} {r r':RS} {v:V} (h:RdS NO tl G f args' sl g r v r') {H:Heap} {K:V→Heap→Prop}
  (hen:enterable Tryz.prog f=true) (htl:∀ F:Col→Col,tl.map (V.recol F)=tl) (hargs:args.map (V.recol Col.ent)=args') (hv:v.recol Col.bk=v) (hr:r.nodes=[])
  (cs:List V) (h8:H 8 = .cells .new g 0 cs) (hcs:V.recolL Col.ent cs=(encSl .any 3 encTk sl :: .int .i64 r.i :: .nils :: .int .i64 r.e::tl)) (hN:H NO = .dead)
  (hk:∀ gx',K v (sets H [(8,.cells .new g 0 (encSl .any 3 encTk sl :: .int .i64 r'.i::grown NO gx' 6 r'.nodes :: .int .i64 r'.e::tl)),(NO,grownO gx' encXN r'.nodes)])) :
  CallA Tryz.prog G f (.ptr 8 g 0::args) H K:=by
 refine CallA.handN hG [(8,rdO NO tl sl g 0 r),(NO,ndO 0 r.nodes)] hen ?_ ?_ ?_
 ·intro p hp
  simp only [List.mem_cons,List.not_mem_nil,or_false] at hp
  rcases hp with rfl | rfl
  ·simp only [h8,AObj.toAny,hcs,rdO_K,hr];rfl
  ·simp only [hN,AObj.toAny,hr];rfl
 ·intro p hp c g' fz cs' ho
  simp only [List.mem_cons,List.not_mem_nil,or_false] at hp
  rcases hp with rfl | rfl
  ·simp only [h8,AObj.cells.injEq] at ho;exact ho.1.symm
  ·simp only [hN] at ho;cases ho
 ·have ha:(V.ptr 8 g 0::args).map (V.recol Col.ent) = .ptr 8 g 0::args':=by rw [List.map_cons,recol_ptr,hargs]
  rw [ha]
  refine (h 0).mono ?_
  rintro _ H' ⟨rfl,gx',q8,qN⟩
  have b8:(rdO NO tl sl g gx' r').backNew = .cells .new g 0 (encSl .any 3 encTk sl :: .int .i64 r'.i::grown NO gx' 6 r'.nodes :: .int .i64 r'.e::tl):=by
   simp only [rdO_K,AObj.backNew,V.recolL_eq,List.map_cons,recol_tks,recol_int,recol_grown,htl]
   rfl
  have bN:(ndO gx' r'.nodes).backNew=grownO gx' encXN r'.nodes:=by
   unfold ndO
   cases hn:r'.nodes with
   | nil=>rfl
   | cons x t =>
    rw [grownC_ne _ _ _ (by simp),grownO_ne _ _ (by simp)]
    simp only [AObj.backNew,V.recolL_eq]
    rw [← flat_recol,List.map_map]
    have he:(x::t).map (V.recol Col.bk ∘ encXN)=(x::t).map encXN:=List.map_congr_left fun y _=>recol_xn _ y
    first | done | rw [he]
  simp only [List.map_cons,List.map_nil,q8,qN,b8,bN,hv]
  exact hk gx'
def encXs (c:Col) (l:List XN):V:=encSl c 6 encXN (grownS l)
def encFr (c:Col) (p:List XN × Int × Int):V := .tuple [.agg [encXs c p.1],.int .i64 p.2.1,.int .i64 p.2.2]
theorem climb_names {l:List Tk} (hT:TkOk l):∀ n∈(climbP l (l.length+1) 1 ⟨0,[],0⟩).2.nodes,n.name.length<100000 :=
 climbP_nm (Q:=fun s=>s.length<100000) l (Nat.zero_lt_succ _) (fun i _=>nextP_len hT i) _ _ _ (fun n hn=>by cases hn)
theorem xFrom_spec (G:Nat→V) (hE:GExp G) (c:Col) (sl:Sl Tk) (hT:TkOk sl.l):Spec Tryz.prog G 33 [encSl c 3 encTk sl] hNone (fun v _=>v=encFr .new (fromP sl.l)):=by
 have hG:=hE.ok
 have hTl:=hT.len
 refine Spec.of_code' 0 44 [.cell 2 24,.tmp 3,.tmp 4] Tryz.func33 rfl rfl rfl rfl fun X=>?_
 have hP:fromP sl.l=if (climbP sl.l (sl.l.length+1) 1 ⟨0,[],0⟩).1=false then (([]:List XN),((climbP sl.l (sl.l.length+1) 1 ⟨0,[],0⟩).2.i:Int),(climbP sl.l (sl.l.length+1) 1 ⟨0,[],0⟩).2.e)
  else if depthP (climbP sl.l (sl.l.length+1) 1 ⟨0,[],0⟩).2.nodes > 64 then ([],0,3) else ((climbP sl.l (sl.l.length+1) 1 ⟨0,[],0⟩).2.nodes,((climbP sl.l (sl.l.length+1) 1 ⟨0,[],0⟩).2.i:Int),(0:Int)):=rfl
 have hr0:RSok sl.l ⟨0,[],0⟩:=⟨Nat.zero_le _,Nat.le_refl _⟩
 have hcl:=fun g=>xClimb_spec G hE sl hT g (sl.l.length+1) 1 ⟨0,[],0⟩ (by decide) (by decide) (Nat.lt_succ_self _) hr0
 have hnm2:=climb_names hT
 have hok:=(climbP_bal sl.l (sl.l.length+1) 1 ⟨0,[],0⟩)
 generalize fromP sl.l=res at hP ⊢
 generalize climbP sl.l (sl.l.length+1) 1 ⟨0,[],0⟩=y at hP hcl hok hnm2
 obtain ⟨b,r⟩:=y
 simp only at hP hcl hok hnm2
 refine AW.seq_k fun K hK=>AW.region (by kernel_rfl) ?_
 simp -implicitDefEqProofs only[go_sem,seval,↓reduceIte]
 intro g2
 refine hK _ ?_
 clear hK K
 refine AW.seq_k fun K hK=>AW.region (by kernel_rfl) ?_
 simp -implicitDefEqProofs only[go_sem,seval,↓reduceIte]
 intro g8
 refine hK _ ?_
 clear hK K
 refine AW.seq_k fun K1 hK1=>?_
 refine AW.block ?_
 refine AW.weak (Weak.stF (fun _=>false) (l:=[(5,.ptr 8 g8 0),(2,.ptr 2 g2 0)]) (m:=[(2,.cells .new g2 0 [.nils]),(8,.cells .new g8 0 [encSl .any 3 encTk sl,.int .i64 0,.nils,.int .i64 0,.func (.func 56) [] []])]) ?_ ?_) ?_
 ·simp -implicitDefEqProofs only[go_sem,seval,↓reduceIte]
  exact ⟨Fz.same _,Fz.same _⟩
 ·simp only [allFzO_cons,allFzO_nil,and_true]
  exact ⟨FzO.keep rfl (by simp -implicitDefEqProofs only[go_sem,seval,↓reduceIte]),FzO.of (c := .new) (fz:=0) (cs:=[encSl c 3 encTk sl,.int .i64 0,.nils,.int .i64 0,.func (.func 56) [] []]) rfl (by simp -implicitDefEqProofs only[go_sem,seval,↓reduceIte];try rfl) ⟨Fz.any (recol_tks _ _ _),Fz.same _,Fz.same _,Fz.same _,Fz.same _,trivial⟩⟩
 refine AW.seq_k fun K hK=>AW.region (by kernel_rfl) ?_
 simp -implicitDefEqProofs only[go_sem,seval,↓reduceIte]
 refine RdS.callN hG (hcl g8) (by kernel_rfl) (fun F=>rfl) rfl rfl rfl _ (by simp -implicitDefEqProofs only[go_sem,seval,↓reduceIte];rfl) (by simp only [V.recolL_eq,List.map_cons,List.map_nil,recol_tks];rfl) (by simp -implicitDefEqProofs only[go_sem,seval,↓reduceIte]) fun gx=>?_
 simp -implicitDefEqProofs only[go_sem,seval,↓reduceIte,sets]
 refine hK _ ?_
 clear hK K
 cases b with
 | false =>
  refine AW.condS (by simp -implicitDefEqProofs only[go_sem,seval,↓reduceIte];rfl) (fun h9=>?_) (fun h9=>?_)
  rotate_left
  ·cases h9
  refine AW.weak (Weak.stF (fun o=>o==8) (l:=[(5,.view .new (.agg [encSl .any 3 encTk sl,.int .i64 r.i,grown 1031 gx 6 r.nodes,.int .i64 r.e,.func (.func 56) [] []])),(2,.ptr 2 g2 0)]) (m:=[(2,.cells .new g2 0 [.nils])]) ?_ ?_) ?_
  ·simp -implicitDefEqProofs only[go_sem,seval,↓reduceIte]
   exact ⟨Fz.ptr (v := .agg [encSl .any 3 encTk sl,.int .i64 r.i,grown 1031 gx 6 r.nodes,.int .i64 r.e,.func (.func 56) [] []]) (c := .new) (fz:=0) rfl (by simp -implicitDefEqProofs only[go_sem,seval,↓reduceIte];try rfl),Fz.same _⟩
  ·simp only [allFzO_cons,allFzO_nil,and_true]
   exact FzO.keep rfl (by simp -implicitDefEqProofs only[go_sem,seval,↓reduceIte])
  refine AW.seq_k fun K2 hK2=>?_
  refine AW.regionT ⟨fun _ => .top,fun i=>if i=4 then .lend else if i=8 then .lend else .pure⟩ (by kernel_rfl) hG (by kernel_rfl) (by kernel_rfl) ?_
  simp -implicitDefEqProofs only[go_sem,seval,↓reduceIte]
  refine hK2 _ ?_
  refine AW.ret ?_
  simp -implicitDefEqProofs only[go_sem,seval,↓reduceIte]
  refine endK_some ?_
  rw [hP];rfl
 | true =>
 refine AW.condS (by simp -implicitDefEqProofs only[go_sem,seval,↓reduceIte];rfl) (fun h9=>?_) (fun h9=>?_)
 ·cases h9
 refine AW.weak (Weak.stF (fun o=>o==1031) (l:=[(5,.ptr 8 g8 0),(2,.ptr 2 g2 0)]) (m:=[(2,.cells .new g2 0 [.nils]),(8,.cells .new g8 0 [encSl .any 3 encTk sl,.int .i64 r.i,encXs .new r.nodes,.int .i64 r.e,.func (.func 56) [] []])]) ?_ ?_) ?_
 ·simp -implicitDefEqProofs only[go_sem,seval,↓reduceIte]
  exact ⟨Fz.same _,Fz.same _⟩
 ·simp only [allFzO_cons,allFzO_nil,and_true]
  exact ⟨FzO.keep rfl (by simp -implicitDefEqProofs only[go_sem,seval,↓reduceIte]),FzO.of (c := .new) (fz:=0) (cs:=[encSl .any 3 encTk sl,.int .i64 r.i,grown 1031 gx 6 r.nodes,.int .i64 r.e,.func (.func 56) [] []]) rfl (by simp -implicitDefEqProofs only[go_sem,seval,↓reduceIte];try rfl) ⟨Fz.same _,Fz.same _,Fz.grown rfl (by simp -implicitDefEqProofs only[go_sem,seval,↓reduceIte];try rfl) encXN_cells,Fz.same _,Fz.same _,trivial⟩⟩
 have hrl:r.nodes.length<1000000:=by have:=(hok.ok hr0);have h1:=this.1;have h2:=this.2;omega
 rw [if_neg (by simp)] at hP
 refine AW.seq_k fun K hK=>AW.region (by kernel_rfl) ?_
 simp -implicitDefEqProofs only[go_sem,seval,↓reduceIte,encXs]
 refine CallA.pure hG (by kernel_rfl) ?_
 simp -implicitDefEqProofs only[go_sem,seval,↓reduceIte,recol_xns]
 refine (xDepth_spec G hE Col.new.ent (grownS r.nodes) (by rw [grownS_l];exact hrl) (by rw [grownS_l];exact hnm2)).mono ?_
 rintro _ _ rfl
 simp -implicitDefEqProofs only[go_sem,seval,↓reduceIte]
 refine hK _ ?_
 clear hK K
 refine AW.condS (by simp -implicitDefEqProofs only[go_sem,seval,↓reduceIte];rfl) (fun h26=>?_) (fun h26=>?_)
 ·have h26:depthP r.nodes > 64:=by simpa using h26
  rw [if_pos h26] at hP
  refine AW.seq_k fun K hK=>AW.region (by kernel_rfl) ?_
  simp -implicitDefEqProofs only[go_sem,seval,↓reduceIte]
  refine hK _ ?_
  clear hK K
  refine AW.ret ?_
  simp -implicitDefEqProofs only[go_sem,seval,↓reduceIte]
  refine endK_some ?_
  rw [hP];rfl
 have h26:¬ depthP r.nodes > 64:=by simpa using h26
 rw [if_neg h26] at hP
 refine AW.skip ?_
 simp -implicitDefEqProofs only[go_sem,seval,↓reduceIte]
 refine hK1 _ ?_
 refine AW.weak (Weak.stF (fun o=>o==8) (l:=[(5,.view .new (.agg [encSl .any 3 encTk sl,.int .i64 r.i,encXs .new r.nodes,.int .i64 r.e,.func (.func 56) [] []])),(2,.ptr 2 g2 0)]) (m:=[(2,.cells .new g2 0 [.nils])]) ?_ ?_) ?_
 ·simp -implicitDefEqProofs only[go_sem,seval,↓reduceIte]
  exact ⟨Fz.ptr (v := .agg [encSl .any 3 encTk sl,.int .i64 r.i,encXs .new r.nodes,.int .i64 r.e,.func (.func 56) [] []]) (c := .new) (fz:=0) rfl (by simp -implicitDefEqProofs only[go_sem,seval,↓reduceIte];try rfl),Fz.same _⟩
 ·simp only [allFzO_cons,allFzO_nil,and_true]
  exact FzO.keep rfl (by simp -implicitDefEqProofs only[go_sem,seval,↓reduceIte])
 refine AW.seq_k fun K2 hK2=>?_
 refine AW.regionT ⟨fun _ => .top,fun i=>if i=3 then .lend else if i=8 then .lend else .pure⟩ (by kernel_rfl) hG (by kernel_rfl) (by kernel_rfl) ?_
 simp -implicitDefEqProofs only[go_sem,seval,↓reduceIte,encXs]
 refine hK2 _ ?_
 refine AW.ret ?_
 simp -implicitDefEqProofs only[go_sem,seval,↓reduceIte]
 refine endK_some ?_
 rw [hP];rfl
end Go.Hs
end

section
namespace Go.Hs
open Go.Proofs
set_option maxRecDepth 10000
theorem toksF_text:∀ (f:Nat) (s:List UInt8) (i:Nat) (acc:List Tk),(∀ t∈acc,t.text.length≤s.length)→∀ t∈(toksF f s i acc).1,t.text.length≤s.length
 | 0,s,i,acc,h=>by rw [toksF];exact h
 | f+1,s,i,acc,h=>by
  rw [toksF]
  split
  ·split
   ·intro t ht;cases ht
   ·refine toksF_text f s _ _ ?_
    intro t ht
    rcases List.mem_append.1 ht with h1 | h1
    ·exact h t h1
    ·rw [List.mem_singleton.1 h1]
     show ((s.drop i).take _).length≤s.length
     rw [List.length_take,List.length_drop];omega
  ·exact h
theorem toks_ok {s:List UInt8} (hs:s.length<100000):TkOk (toksP s).1:=by
 unfold toksP
 split
 ·exact ⟨Nat.zero_lt_succ _,fun t ht=>by cases ht⟩
 refine ⟨?_,?_⟩
 ·have:=toksF_len (s.length+1) s (blk s) []
  have h0:([]:List Tk).length=0:=rfl
  omega
 ·intro t ht
  have:=toksF_text (s.length+1) s (blk s) [] (fun t ht=>by cases ht) t ht
  omega
theorem xParse_spec (G:Nat→V) (hE:GExp G) (s:List UInt8) (hs:s.length<100000):Spec Tryz.prog G 29 [.str s] hNone (fun v _=>v=encFr .new (exprP s)):=by
 have hG:=hE.ok
 refine Spec.of_code' 0 60 [.cell 2 24,.tmp 3,.tmp 4] Tryz.func29 rfl rfl rfl rfl fun X=>?_
 have hP:exprP s=if (toksP s).2.2≠0 then (([]:List XN),(toksP s).2.1,(toksP s).2.2)
  else if (fromP (toksP s).1).2.2=3 then ([],0,3)
  else if (fromP (toksP s).1).2.2=0∧(fromP (toksP s).1).2.1=((toksP s).1.length:Nat) then ((fromP (toksP s).1).1,0,0)
  else ([],if (fromP (toksP s).1).2.1=((toksP s).1.length:Nat) then (s.length:Int) else ((toksP s).1.getD (fromP (toksP s).1).2.1.toNat ⟨0,[],0⟩).pos,if (fromP (toksP s).1).2.2=0 then 80 else (fromP (toksP s).1).2.2):=rfl
 generalize exprP s=res at hP ⊢
 have hT:=toks_ok hs
 have hl:=lTokens_spec G hE s hs
 have hfr:=fun c=>xFrom_spec G hE c (grownS (toksP s).1) (by rw [grownS_l];exact hT)
 simp only [grownS_l] at hfr
 have hb:=fromP_bnd (l:=(toksP s).1)
 generalize toksP s=t at hP hT hl hfr hb
 generalize fromP t.1=p at hP hfr hb
 obtain ⟨l,at0,e0⟩:=t
 obtain ⟨ns,i,e⟩:=p
 simp only at hP hT hfr hb
 refine AW.seq_k fun K hK=>AW.region (by kernel_rfl) ?_
 simp -implicitDefEqProofs only[go_sem,seval,↓reduceIte]
 intro g2
 refine hK _ ?_
 clear hK K
 refine AW.seq_k fun K hK=>AW.region (by kernel_rfl) ?_
 simp -implicitDefEqProofs only[go_sem,seval,↓reduceIte]
 refine CallA.pure hG (by kernel_rfl) ?_
 simp -implicitDefEqProofs only[go_sem,seval,↓reduceIte]
 refine hl.mono ?_
 rintro _ _ rfl
 simp -implicitDefEqProofs only[go_sem,seval,↓reduceIte,encTok,encTks,recol_tks]
 refine hK _ ?_
 clear hK K
 refine AW.seq_k fun K1 hK1=>?_
 refine AW.seq_k fun K hK=>AW.region (by kernel_rfl) ?_
 simp -implicitDefEqProofs only[go_sem,seval,↓reduceIte]
 refine hK _ ?_
 clear hK K
 by_cases he0:e0=0
 rotate_left
 ·have q1:(e0 != 0)=true:=by simpa using he0
  rw [if_pos he0] at hP
  refine AW.condS (by simp -implicitDefEqProofs only[go_sem,seval,↓reduceIte];rfl) (fun h17=>?_) (fun h17=>?_)
  ·refine AW.seq_k fun K hK=>AW.region (by kernel_rfl) ?_
   simp -implicitDefEqProofs only[go_sem,seval,↓reduceIte]
   refine hK _ ?_
   clear hK K
   refine AW.ret ?_
   simp -implicitDefEqProofs only[go_sem,seval,↓reduceIte]
   refine endK_some ?_
   rw [hP];rfl
  ·rw [q1] at h17;cases h17
 have q1:(e0 != 0)=false:=by simpa using he0
 rw [if_neg (by simpa using he0)] at hP
 refine AW.condS (by simp -implicitDefEqProofs only[go_sem,seval,↓reduceIte];rfl) (fun h17=>?_) (fun h17=>?_)
 ·rw [q1] at h17;cases h17
 refine AW.skip ?_
 simp -implicitDefEqProofs only[go_sem,seval,↓reduceIte]
 refine hK1 _ ?_
 refine AW.seq_k fun K hK=>AW.region (by kernel_rfl) ?_
 simp -implicitDefEqProofs only[go_sem,seval,↓reduceIte]
 refine CallA.pure hG (by kernel_rfl) ?_
 simp -implicitDefEqProofs only[go_sem,seval,↓reduceIte,recol_tks]
 refine (hfr _).mono ?_
 rintro _ _ rfl
 simp -implicitDefEqProofs only[go_sem,seval,↓reduceIte,encFr,encXs,recol_xns]
 intro g8
 refine hK _ ?_
 clear hK K
 refine AW.seq_k fun K2 hK2=>?_
 refine AW.block ?_
 refine AW.seq_k fun K hK=>AW.region (by kernel_rfl) ?_
 simp -implicitDefEqProofs only[go_sem,seval,↓reduceIte]
 refine hK _ ?_
 clear hK K
 by_cases he3:e=3
 ·have q3:(e==3)=true:=by simpa using he3
  rw [if_pos he3] at hP
  refine AW.condS (by simp -implicitDefEqProofs only[go_sem,seval,↓reduceIte];rfl) (fun h27=>?_) (fun h27=>?_)
  ·refine AW.seq_k fun K hK=>AW.region (by kernel_rfl) ?_
   simp -implicitDefEqProofs only[go_sem,seval,↓reduceIte]
   refine hK _ ?_
   clear hK K
   refine AW.ret ?_
   simp -implicitDefEqProofs only[go_sem,seval,↓reduceIte]
   refine endK_some ?_
   rw [hP,he3];rfl
  ·rw [q3] at h27;cases h27
 have q3:(e==3)=false:=by simpa using he3
 rw [if_neg he3] at hP
 refine AW.condS (by simp -implicitDefEqProofs only[go_sem,seval,↓reduceIte];rfl) (fun h27=>?_) (fun h27=>?_)
 ·rw [q3] at h27;cases h27
 by_cases he:e=0
 ·have q4:(e==0)=true:=by simpa using he
  by_cases hi:i=(l.length:Nat)
  ·have q5:(i==((l.length:Nat):Int))=true:=by simpa using hi
   rw [if_pos ⟨he,hi⟩] at hP
   refine AW.seq_k fun K hK=>AW.region (by kernel_rfl) ?_
   simp -implicitDefEqProofs only[go_sem,seval,↓reduceIte,q4,q5]
   refine hK _ ?_
   clear hK K
   refine AW.condS (by simp -implicitDefEqProofs only[go_sem,seval,↓reduceIte];rfl) (fun h32=>?_) (fun h32=>?_)
   ·refine AW.seq_k fun K hK=>AW.region (by kernel_rfl) ?_
    simp -implicitDefEqProofs only[go_sem,seval,↓reduceIte]
    refine hK _ ?_
    clear hK K
    refine AW.ret ?_
    simp -implicitDefEqProofs only[go_sem,seval,↓reduceIte]
    refine endK_some ?_
    rw [hP];rfl
   ·cases h32
  have q5:(i==((l.length:Nat):Int))=false:=by simpa using hi
  rw [if_neg (fun h=>hi h.2),if_neg hi,if_pos he] at hP
  obtain ⟨m,rfl⟩:∃ m:Nat,i=m:=⟨i.toNat,by omega⟩
  have hml:m<l.length:=by omega
  obtain ⟨tk,htk⟩:∃ tk,l[m]? = some tk:=⟨_,List.getElem?_eq_getElem hml⟩
  have hgd:(l.getD ((m:Nat):Int).toNat ⟨0,[],0⟩)=tk:=by rw [Int.toNat_natCast,List.getD_eq_getElem?_getD,htk];rfl
  rw [hgd] at hP
  refine AW.seq_k fun K hK=>AW.region (by kernel_rfl) ?_
  simp -implicitDefEqProofs only[go_sem,seval,↓reduceIte,q4,q5]
  refine hK _ ?_
  clear hK K
  refine AW.condS (by simp -implicitDefEqProofs only[go_sem,seval,↓reduceIte];rfl) (fun h32=>?_) (fun h32=>?_)
  ·cases h32
  refine AW.seq_k fun K hK=>AW.region (by kernel_rfl) ?_
  simp -implicitDefEqProofs only[go_sem,seval,↓reduceIte,q4]
  refine hK _ ?_
  clear hK K
  refine AW.condS (by simp -implicitDefEqProofs only[go_sem,seval,↓reduceIte];rfl) (fun h42=>?_) (fun h42=>?_)
  rotate_left
  ·cases h42
  refine AW.region (by kernel_rfl) ?_
  simp -implicitDefEqProofs only[go_sem,seval,↓reduceIte]
  refine hK2 _ ?_
  refine AW.seq_k fun K3 hK3=>?_
  refine AW.seq_k fun K hK=>AW.region (by kernel_rfl) ?_
  simp -implicitDefEqProofs only[go_sem,seval,↓reduceIte,q5]
  refine hK _ ?_
  clear hK K
  refine AW.condS (by simp -implicitDefEqProofs only[go_sem,seval,↓reduceIte];rfl) (fun h48=>?_) (fun h48=>?_)
  ·cases h48
  refine AW.skip ?_
  simp -implicitDefEqProofs only[go_sem,seval,↓reduceIte]
  refine hK3 _ ?_
  refine AW.seq_k fun K4 hK4=>?_
  refine AW.regionT ⟨fun _ => .top,fun i=>if i=5 then .lend else .pure⟩ (by kernel_rfl) hG (by kernel_rfl) (by kernel_rfl) ?_
  simp -implicitDefEqProofs only[go_sem,seval,↓reduceIte,htk,encTk_K]
  refine hK4 _ ?_
  refine AW.ret ?_
  simp -implicitDefEqProofs only[go_sem,seval,↓reduceIte]
  refine endK_some ?_
  rw [hP];rfl
 have q4:(e==0)=false:=by simpa using he
 rw [if_neg (fun h=>he h.1),if_neg he] at hP
 refine AW.seq_k fun K hK=>AW.region (by kernel_rfl) ?_
 simp -implicitDefEqProofs only[go_sem,seval,↓reduceIte,q4]
 refine hK _ ?_
 clear hK K
 refine AW.condS (by simp -implicitDefEqProofs only[go_sem,seval,↓reduceIte];rfl) (fun h32=>?_) (fun h32=>?_)
 ·cases h32
 refine AW.seq_k fun K hK=>AW.region (by kernel_rfl) ?_
 simp -implicitDefEqProofs only[go_sem,seval,↓reduceIte,q4]
 refine hK _ ?_
 clear hK K
 refine AW.condS (by simp -implicitDefEqProofs only[go_sem,seval,↓reduceIte];rfl) (fun h42=>?_) (fun h42=>?_)
 ·cases h42
 refine AW.skip ?_
 simp -implicitDefEqProofs only[go_sem,seval,↓reduceIte]
 refine hK2 _ ?_
 refine AW.seq_k fun K3 hK3=>?_
 by_cases hi:i=(l.length:Nat)
 ·have q5:(i==((l.length:Nat):Int))=true:=by simpa using hi
  rw [if_pos hi] at hP
  refine AW.seq_k fun K hK=>AW.region (by kernel_rfl) ?_
  simp -implicitDefEqProofs only[go_sem,seval,↓reduceIte,q5]
  refine hK _ ?_
  clear hK K
  refine AW.condS (by simp -implicitDefEqProofs only[go_sem,seval,↓reduceIte];rfl) (fun h48=>?_) (fun h48=>?_)
  ·refine AW.seq_k fun K hK=>AW.region (by kernel_rfl) ?_
   simp -implicitDefEqProofs only[go_sem,seval,↓reduceIte]
   refine hK _ ?_
   clear hK K
   refine AW.ret ?_
   simp -implicitDefEqProofs only[go_sem,seval,↓reduceIte]
   refine endK_some ?_
   rw [hP];rfl
  ·cases h48
 have q5:(i==((l.length:Nat):Int))=false:=by simpa using hi
 rw [if_neg hi] at hP
 obtain ⟨m,rfl⟩:∃ m:Nat,i=m:=⟨i.toNat,by omega⟩
 have hml:m<l.length:=by omega
 obtain ⟨tk,htk⟩:∃ tk,l[m]? = some tk:=⟨_,List.getElem?_eq_getElem hml⟩
 have hgd:(l.getD ((m:Nat):Int).toNat ⟨0,[],0⟩)=tk:=by rw [Int.toNat_natCast,List.getD_eq_getElem?_getD,htk];rfl
 rw [hgd] at hP
 refine AW.seq_k fun K hK=>AW.region (by kernel_rfl) ?_
 simp -implicitDefEqProofs only[go_sem,seval,↓reduceIte,q5]
 refine hK _ ?_
 clear hK K
 refine AW.condS (by simp -implicitDefEqProofs only[go_sem,seval,↓reduceIte];rfl) (fun h48=>?_) (fun h48=>?_)
 ·cases h48
 refine AW.skip ?_
 simp -implicitDefEqProofs only[go_sem,seval,↓reduceIte]
 refine hK3 _ ?_
 refine AW.seq_k fun K4 hK4=>?_
 refine AW.regionT ⟨fun _ => .top,fun i=>if i=5 then .lend else .pure⟩ (by kernel_rfl) hG (by kernel_rfl) (by kernel_rfl) ?_
 simp -implicitDefEqProofs only[go_sem,seval,↓reduceIte,htk,encTk_K]
 refine hK4 _ ?_
 refine AW.ret ?_
 simp -implicitDefEqProofs only[go_sem,seval,↓reduceIte]
 refine endK_some ?_
 rw [hP];rfl
end Go.Hs
end

section
namespace Go.Hs
open Go.Proofs
set_option maxRecDepth 10000
theorem join_lib (ws:List (List UInt8)):Lib.join ws [32]=joinW ws:=by
 have:∀ ws:List (List UInt8),[32].intercalate ws=joinW ws:=by
  intro ws
  induction ws with
  | nil=>rfl
  | cons w r ih =>
   cases r with
   | nil=>simp [joinW,List.intercalate,List.intersperse]
   | cons v r =>
    rw [joinW_cons _ (by simp),← ih]
    simp [List.intercalate,List.intersperse]
 exact this ws
theorem join_spec (G:Nat→V) (c:Col) (ws:List (List UInt8)) (hne:ws≠[]) (hl:ws.length<1000000) (hj:(joinW ws).length<1000000) :
  Spec Tryz.prog G 58 [encSl c 1 V.str (.mk false ws),.str [32]] hNone (fun v _=>v = .str (joinW ws)):=by
 refine Spec.of_calls fun X cargs _ _ hA=>?_
 obtain ⟨x,y,rfl,hx,hy⟩:=hA.two
 obtain ⟨p',rfl,hp⟩:=hy.str_inv
 have hfl:=flat_strW ws
 generalize hv:encSl c 1 V.str (.mk false ws)=v at hx
 have hv:v = .slice c false 1 (ws.map V.str):=hv.symm
 subst hv
 generalize hm:ws.map V.str=ls at hx hfl
 cases hx with
 | slice0=>cases ws with
  | nil=>exact absurd rfl hne
  | cons=>cases hm
 | slice _ _ _ _ b off cap f hcap hclip hE hc hr =>
  have hln:ls.length=ws.length:=by rw [← hm,List.length_map]
  have hfn:(flat ls).length=ws.length:=by rw [hfl,hln]
  have hget:∀ j (h:j<ws.length),X.w.cell? ⟨b,off+j,none⟩=some (.string ⟨ws[j].toArray⟩):=by
   intro j h
   have h1:=(hc j (by omega)).2.2.1
   have h2:=hr j (by omega)
   have e:(flat ls)[j]'(by omega) = .str ws[j]:=by
    have:(flat ls)[j]? = some (.str ws[j]):=by rw [hfl,← hm,List.getElem?_map,List.getElem?_eq_getElem h];rfl
    rw [List.getElem?_eq_getElem (by omega)] at this
    exact Option.some.inj this
   rw [e] at h2
   obtain ⟨s',h3,h4⟩:=h2.str_inv
   have h5:s'=⟨ws[j].toArray⟩:=by
    obtain ⟨⟨l⟩⟩:=s'
    simp at h4
    rw [h4]
   rw [h3,h5] at h1
   exact h1
  have hbk:b<X.w.heap.size:=by
   have h0:=hget 0 (by cases ws with | nil=>exact absurd rfl hne | cons=>simp)
   rw [← Nat.not_le]
   intro hle
   have:X.w.heap[b]? = none:=by rw [Array.getElem?_eq_none_iff];exact hle
   simp [World.cell?,this] at h0
  have hxs:(ws.map fun w=>(⟨w.toArray⟩:ByteArray)).map (·.data.toList)=ws:=by rw [List.map_map];exact (List.map_congr_left fun w _=>rfl).trans (List.map_id _)
  have hjl:Lib.join ((ws.map fun w=>(⟨w.toArray⟩:ByteArray)).map (·.data.toList)) p'.data.toList=joinW ws:=by rw [hxs,hp,join_lib]
  have hkit:=Any.strings_Join Tryz.laysJN Tryz.extraJN b off cap (ws.map fun w=>(⟨w.toArray⟩:ByteArray)) p' X.w (fun j x hj=>by
   rw [List.getElem?_map] at hj
   cases hw:ws[j]? with
   | none=>rw [hw] at hj;cases hj
   | some w =>
    rw [hw] at hj
    obtain ⟨q1,q2⟩:=List.getElem?_eq_some_iff.1 hw
    cases hj
    rw [hget j q1,q2]) hbk (by rw [List.length_map];omega) (by rw [List.length_map,← hln];exact hcap) (by rw [hjl];omega)
  rw [List.length_map,← hln] at hkit
  refine (show Calls Tryz.prog 58 _ _ _ from hkit).mono ?_
  rintro e w' ⟨rfl,hB⟩
  exact ⟨_,_,rfl,hB,.str _ _ rfl,by rw [hjl]⟩
def PrintS (l:List XN) (r:List UInt8 × Int):Prop:=(checkP l≠0→r=([],checkP l))∧∀ x:X,x.ok=true→l=x.row 0→checkP l=0→r=(joinW (x.W 0),0)
def encPr (r:List UInt8 × Int):V := .tuple [.str r.1,.int .i64 r.2]
theorem checkP_ok {l:List XN} (h:checkP l=0):∃ x:X,x.ok=true∧l=x.row 0∧x.depth≤64:=by
 have hd:depthP l≠0:=by
  intro hd
  rw [checkP,if_pos hd] at h
  cases h
 obtain ⟨x,hx,rfl⟩:=depth_none hd
 refine ⟨x,hx,rfl,?_⟩
 unfold checkP at h
 rw [if_neg hd] at h
 split at h
 ·cases h
 ·rename_i q
  rw [depth_row hx] at q
  omega
theorem xPrint_spec (G:Nat→V) (hE:GExp G) (c:Col) (s:Sl XN) (hs:s.l.length<1000) (hnm:∀ n∈s.l,n.name.length<100000) (hnum:∀ n∈s.l,n.num≤9223372036854775807) :
  Spec Tryz.prog G 37 [.agg [encSl c 6 encXN s]] hNone (fun v _=>∃ r,v=encPr r∧PrintS s.l r):=by
 have hG:=hE.ok
 refine Spec.of_code' 0 17 [.tmp 2,.tmp 3] Tryz.func37 rfl rfl rfl rfl fun X0=>?_
 refine AW.seq_k fun K hK=>AW.region (by kernel_rfl) ?_
 simp -implicitDefEqProofs only[go_sem,seval,↓reduceIte]
 intro g1
 refine hK _ ?_
 clear hK K
 refine AW.seq_k fun K1 hK1=>?_
 refine AW.seq_k fun K hK=>AW.region (by kernel_rfl) ?_
 simp -implicitDefEqProofs only[go_sem,seval,↓reduceIte]
 refine CallA.pure hG (by kernel_rfl) ?_
 simp -implicitDefEqProofs only[go_sem,seval,↓reduceIte,recol_xns]
 refine (xCheck_spec G hE _ s (by omega) hnm).mono ?_
 rintro _ _ rfl
 simp -implicitDefEqProofs only[go_sem,seval,↓reduceIte]
 refine hK _ ?_
 clear hK K
 refine AW.seq_k fun K hK=>AW.region (by kernel_rfl) ?_
 simp -implicitDefEqProofs only[go_sem,seval,↓reduceIte]
 refine hK _ ?_
 clear hK K
 by_cases hc:checkP s.l=0
 rotate_left
 ·have e1:(checkP s.l != 0)=true:=by simpa using hc
  rw [e1]
  refine AW.condS (by simp -implicitDefEqProofs only[go_sem,seval,↓reduceIte];rfl) (fun h8=>?_) (fun h8=>?_)
  rotate_left
  ·cases h8
  refine AW.seq_k fun K hK=>AW.region (by kernel_rfl) ?_
  simp -implicitDefEqProofs only[go_sem,seval,↓reduceIte]
  refine hK _ ?_
  clear hK K
  refine AW.ret ?_
  simp -implicitDefEqProofs only[go_sem,seval,↓reduceIte]
  refine endK_some ?_
  exact ⟨_,rfl,fun _=>rfl,fun x _ _ h=>absurd h hc⟩
 have e1:(checkP s.l != 0)=false:=by simpa using hc
 rw [e1]
 refine AW.condS (by simp -implicitDefEqProofs only[go_sem,seval,↓reduceIte];rfl) (fun h8=>?_) (fun h8=>?_)
 ·cases h8
 refine AW.skip ?_
 simp -implicitDefEqProofs only[go_sem,seval,↓reduceIte]
 refine hK1 _ ?_
 obtain ⟨x,hx,hl,hd⟩:=checkP_ok hc
 have hfit:x.fit:=fit_of x 0 (by rw [← hl];exact hnum)
 have hsz:s.l.length=x.size:=by rw [hl,X.row_len]
 have hat:At s.l x 0:=by rw [hl];exact At.whole x
 have hxp:=x.size_pos
 have hw:IntKind.i64.wrap ((s.l.length:Int)-1)=((0:Nat):Int)+x.size-1:=by rw [w64 (by omega) (by omega)];omega
 have hpl:=print_len hx hfit
 have hcn:=W_cnt x 0
 refine AW.seq_k fun K hK=>AW.region (by kernel_rfl) ?_
 simp -implicitDefEqProofs only[go_sem,seval,↓reduceIte,hw]
 refine CallA.pure hG (by kernel_rfl) ?_
 simp -implicitDefEqProofs only[go_sem,seval,↓reduceIte,recol_xns]
 refine (xWords_spec G hE s hs x.size x 0 _ 0 (Nat.le_refl _) hat hx hfit (by decide) (by decide)).mono ?_
 rintro _ _ rfl
 have hrb:(encSl .new 1 V.str (.mk false (x.W 0))).recol Col.bk=encSl .new 1 V.str (.mk false (x.W 0)):=recol_enc _ _ _ (fun _=>rfl) _
 simp -implicitDefEqProofs only[go_sem,seval,↓reduceIte,hrb]
 refine CallA.pure hG (by kernel_rfl) ?_
 rw [List.map_cons,List.map_cons,List.map_nil,show (encSl .new 1 V.str (.mk false (x.W 0))).recol Col.ent=encSl (Col.ent .new) 1 V.str (.mk false (x.W 0)) from recol_enc _ _ _ (fun _=>rfl) _]
 refine (join_spec G _ (x.W 0) (W_ne x 0) (by omega) (by omega)).mono ?_
 rintro _ _ rfl
 simp -implicitDefEqProofs only[go_sem,seval,↓reduceIte]
 refine hK _ ?_
 clear hK K
 refine AW.ret ?_
 simp -implicitDefEqProofs only[go_sem,seval,↓reduceIte]
 refine endK_some ?_
 exact ⟨(joinW (x.W 0),0),rfl,fun h=>absurd hc h,fun y hy hly _=>by rw [row_inj y x 0 hy hx (by rw [← hly,← hl])]⟩
theorem rPrintA_spec (G:Nat→V) (hG:GOk G) (c:Col) (s:Sl XN) (hs:s.l.length<1000) (hnm:∀ n∈s.l,n.name.length<100000) (hnum:∀ n∈s.l,n.num≤9223372036854775807) :
  Spec Tryz.prog G 38 [encSl c 6 encXN s] hNone (fun v _=>∃ r,v=encPr r∧PrintS s.l r):=by
 refine Spec.of_code' 0 15 [.tmp 2,.tmp 3] Tryz.func38 rfl rfl rfl rfl fun X0=>?_
 refine AW.seq_k fun K hK=>AW.region (by kernel_rfl) ?_
 simp -implicitDefEqProofs only[go_sem,seval,↓reduceIte]
 refine hK _ ?_
 clear hK K
 refine AW.seq_k fun K hK=>AW.region (by kernel_rfl) ?_
 simp -implicitDefEqProofs only[go_sem,seval,↓reduceIte]
 refine CallA.pure hG (by kernel_rfl) ?_
 simp -implicitDefEqProofs only[go_sem,seval,↓reduceIte,recol_xns]
 refine (rCheck_spec G hG _ s (by omega) hnm).mono ?_
 rintro _ _ rfl
 simp -implicitDefEqProofs only[go_sem,seval,↓reduceIte]
 refine hK _ ?_
 clear hK K
 refine AW.seq_k fun K1 hK1=>?_
 refine AW.seq_k fun K hK=>AW.region (by kernel_rfl) ?_
 simp -implicitDefEqProofs only[go_sem,seval,↓reduceIte]
 refine hK _ ?_
 clear hK K
 by_cases hc:checkP s.l=0
 rotate_left
 ·have e1:(checkP s.l != 0)=true:=by simpa using hc
  rw [e1]
  refine AW.condS (by simp -implicitDefEqProofs only[go_sem,seval,↓reduceIte];rfl) (fun h8=>?_) (fun h8=>?_)
  rotate_left
  ·cases h8
  refine AW.seq_k fun K hK=>AW.region (by kernel_rfl) ?_
  simp -implicitDefEqProofs only[go_sem,seval,↓reduceIte]
  refine hK _ ?_
  clear hK K
  refine AW.ret ?_
  simp -implicitDefEqProofs only[go_sem,seval,↓reduceIte]
  refine endK_some ?_
  exact ⟨_,rfl,fun _=>rfl,fun x _ _ h=>absurd h hc⟩
 have e1:(checkP s.l != 0)=false:=by simpa using hc
 rw [e1]
 refine AW.condS (by simp -implicitDefEqProofs only[go_sem,seval,↓reduceIte];rfl) (fun h8=>?_) (fun h8=>?_)
 ·cases h8
 refine AW.skip ?_
 simp -implicitDefEqProofs only[go_sem,seval,↓reduceIte]
 refine hK1 _ ?_
 obtain ⟨x,hx,hl,hd⟩:=checkP_ok hc
 have hfit:x.fit:=fit_of x 0 (by rw [← hl];exact hnum)
 have hsz:s.l.length=x.size:=by rw [hl,X.row_len]
 have hat:At s.l x 0:=by rw [hl];exact At.whole x
 have hxp:=x.size_pos
 have hw:IntKind.i64.wrap ((s.l.length:Int)-1)=((0:Nat):Int)+x.size-1:=by rw [w64 (by omega) (by omega)];omega
 refine AW.seq_k fun K hK=>AW.region (by kernel_rfl) ?_
 simp -implicitDefEqProofs only[go_sem,seval,↓reduceIte,hw]
 refine CallA.pure hG (by kernel_rfl) ?_
 simp -implicitDefEqProofs only[go_sem,seval,↓reduceIte,recol_xns]
 refine (rPrint_spec G hG s hs x.size x 0 _ 0 (Nat.le_refl _) hat hx hfit (by decide) (by decide)).mono ?_
 rintro _ _ rfl
 simp -implicitDefEqProofs only[go_sem,seval,↓reduceIte]
 refine hK _ ?_
 clear hK K
 refine AW.ret ?_
 simp -implicitDefEqProofs only[go_sem,seval,↓reduceIte]
 refine endK_some ?_
 exact ⟨(joinW (x.W 0),0),rfl,fun h=>absurd hc h,fun y hy hly _=>by rw [row_inj y x 0 hy hx (by rw [← hly,← hl])]⟩
end Go.Hs
end

section
namespace Go.Hs
open Go.Proofs
set_option maxRecDepth 10000
theorem rUnary_spec (G:Nat→V) (hG:GOk G) (sl:Sl Tk) (hT:TkOk sl.l) (g:Nat) (r:RS) (hr:RSok sl.l r) (inner:Inner) (hin:InnR G sl g inner r.i) (hb:Bals sl.l inner) :
  RdS 1012 [] G 80 [] sl g r (.bool (unR sl.l inner r).1) (unR sl.l inner r).2:=by
 have hTl:=hT.len
 have hri:r.i<1000000:=by have:=hr.1;omega
 have hw:IntKind.i64.wrap ((r.i:Int)+1)=((r.i+1:Nat):Int):=by rw [w64 (by omega) (by omega)];omega
 intro gx
 refine Spec.of_code' 1000 29 [.tmp 2] Tryz.func80 rfl rfl rfl rfl fun X=>?_
 have hP:unR sl.l inner r=if (nextP sl.l r.i).text=[45] then andThen (inner 9 r.adv) fun a=>(true,a.put ⟨5,0,[],a.last,-1,-1⟩)
  else if (nextP sl.l r.i).text=[110,111,116] then andThen (inner 9 r.adv) fun a=>(true,a.put ⟨6,0,[],a.last,-1,-1⟩)
  else primR sl.l inner r:=rfl
 have hpr:=rPrimary_spec G hG sl hT g r hr inner hin hb
 have hlt:(nextP sl.l r.i).text≠[]→r.i<sl.l.length:=by
  intro h
  rw [← Nat.not_le]
  intro h2
  apply h
  rw [nextP_none h2]
 generalize unR sl.l inner r=res at hP ⊢
 generalize primR sl.l inner r=pr at hP hpr
 refine AW.seq_k fun K hK=>AW.region (by kernel_rfl) ?_
 simp -implicitDefEqProofs only[go_sem,seval,↓reduceIte]
 refine hK _ ?_
 clear hK K
 refine AW.seq_k fun K hK=>AW.region (by kernel_rfl) ?_
 simp -implicitDefEqProofs only[go_sem,seval,↓reduceIte]
 refine hK _ ?_
 clear hK K
 refine AW.seqJ (fun (x:Nat × Int)=>st [(0,.ptr 8 g 0),(3,.int .u8 x.2)] [(8,rdO 1012 [] sl g x.1 r),(1012,ndO x.1 r.nodes)]) (fun x=>r.i<sl.l.length∧res=andThen (inner 9 r.adv) fun a=>(true,a.put ⟨x.2,0,[],a.last,-1,-1⟩)) (fun K1 hK1=>?_) ?_
 ·refine AW.seq_k fun K hK=>AW.region (by kernel_rfl) ?_
  simp -implicitDefEqProofs only[go_sem,seval,↓reduceIte]
  refine RdS.call hG (rNext_spec G hG sl hT g r hri) (gx:=gx) (by kernel_rfl) (fun F=>rfl) (by decide) (by first | rfl | (simp -implicitDefEqProofs only[go_sem,seval,↓reduceIte,List.map_cons,List.map_nil,encXN_K];try rfl)) (by first | rfl | (simp -implicitDefEqProofs only[go_sem,seval,↓reduceIte,List.map_cons,List.map_nil];try rfl)) (by first | rfl | (simp -implicitDefEqProofs only[go_sem,seval,↓reduceIte];try rfl)) (by first | rfl | (simp -implicitDefEqProofs only[go_sem,seval,↓reduceIte];try rfl)) fun gx1=>?_
  simp -implicitDefEqProofs only[go_sem,seval,↓reduceIte,sets]
  refine hK _ ?_
  clear hK K
  generalize (nextP sl.l r.i).text=t at hP hlt ⊢
  refine AW.block ?_
  by_cases c1:t=[45]
  ·have e1:(t==[45])=true:=by simpa using c1
   rw [if_pos c1] at hP
   refine AW.seq_k fun K hK=>AW.region (by kernel_rfl) ?_
   simp -implicitDefEqProofs only[go_sem,seval,↓reduceIte,e1]
   refine hK _ ?_
   clear hK K
   refine AW.condS (by simp -implicitDefEqProofs only[go_sem,seval,↓reduceIte];rfl) (fun h2=>?_) (fun h2=>?_)
   rotate_left
   ·cases h2
   refine AW.region (by kernel_rfl) ?_
   simp -implicitDefEqProofs only[go_sem,seval,↓reduceIte]
   exact hK1 _ (gx1,5) ⟨hlt (by rw [c1];simp),hP⟩ (Weak.st (by simp -implicitDefEqProofs only[go_sem,seval,↓reduceIte];try rfl) (by simp -implicitDefEqProofs only[go_sem,seval,↓reduceIte];try rfl))
  have e1:(t==[45])=false:=by simpa using c1
  rw [if_neg c1] at hP
  refine AW.seq_k fun K hK=>AW.region (by kernel_rfl) ?_
  simp -implicitDefEqProofs only[go_sem,seval,↓reduceIte,e1]
  refine hK _ ?_
  clear hK K
  refine AW.condS (by simp -implicitDefEqProofs only[go_sem,seval,↓reduceIte];rfl) (fun h2=>?_) (fun h2=>?_)
  ·cases h2
  clear h2
  by_cases c2:t=[110,111,116]
  ·have e2:(t==[110,111,116])=true:=by simpa using c2
   rw [if_pos c2] at hP
   refine AW.seq_k fun K hK=>AW.region (by kernel_rfl) ?_
   simp -implicitDefEqProofs only[go_sem,seval,↓reduceIte,e2]
   refine hK _ ?_
   clear hK K
   refine AW.condS (by simp -implicitDefEqProofs only[go_sem,seval,↓reduceIte];rfl) (fun h2=>?_) (fun h2=>?_)
   rotate_left
   ·cases h2
   refine AW.region (by kernel_rfl) ?_
   simp -implicitDefEqProofs only[go_sem,seval,↓reduceIte]
   exact hK1 _ (gx1,6) ⟨hlt (by rw [c2];simp),hP⟩ (Weak.st (by simp -implicitDefEqProofs only[go_sem,seval,↓reduceIte];try rfl) (by simp -implicitDefEqProofs only[go_sem,seval,↓reduceIte];try rfl))
  have e2:(t==[110,111,116])=false:=by simpa using c2
  rw [if_neg c2] at hP
  refine AW.seq_k fun K hK=>AW.region (by kernel_rfl) ?_
  simp -implicitDefEqProofs only[go_sem,seval,↓reduceIte,e2]
  refine hK _ ?_
  clear hK K
  refine AW.condS (by simp -implicitDefEqProofs only[go_sem,seval,↓reduceIte];rfl) (fun h2=>?_) (fun h2=>?_)
  ·cases h2
  refine AW.seq_k fun K hK=>AW.region (by kernel_rfl) ?_
  simp -implicitDefEqProofs only[go_sem,seval,↓reduceIte]
  refine RdS.call hG (hpr) (gx:=gx1) (by kernel_rfl) (fun F=>rfl) (by decide) (by first | rfl | (simp -implicitDefEqProofs only[go_sem,seval,↓reduceIte,List.map_cons,List.map_nil,encXN_K];try rfl)) (by first | rfl | (simp -implicitDefEqProofs only[go_sem,seval,↓reduceIte,List.map_cons,List.map_nil];try rfl)) (by first | rfl | (simp -implicitDefEqProofs only[go_sem,seval,↓reduceIte];try rfl)) (by first | rfl | (simp -implicitDefEqProofs only[go_sem,seval,↓reduceIte];try rfl)) fun gx2=>?_
  simp -implicitDefEqProofs only[go_sem,seval,↓reduceIte,sets]
  refine hK _ ?_
  clear hK K
  refine AW.ret ?_
  simp -implicitDefEqProofs only[go_sem,seval,↓reduceIte]
  refine endK_some ?_
  rw [hP]
  exact ⟨rfl,gx2,by first | rfl | (simp -implicitDefEqProofs only[go_sem,seval,↓reduceIte];try rfl),by first | rfl | (simp -implicitDefEqProofs only[go_sem,seval,↓reduceIte];try rfl)⟩
 rintro ⟨gx,op⟩ ⟨hl,hP⟩
 replace hP:res=andThen (inner 9 r.adv) fun a=>(true,a.put ⟨op,0,[],a.last,-1,-1⟩):=hP
 have had:RSok sl.l r.adv:=(Bal.adv hl).ok hr
 have hc:=hin.un r.adv (Nat.lt_succ_self _) had
 have hbl:=(hb 9 r.adv).ok had
 generalize inner 9 r.adv=x at hc hP hbl
 obtain ⟨b,a⟩:=x
 simp only at hc hbl
 have han:a.nodes.length<1000000:=by have:=hbl.1;have:=hbl.2;omega
 refine AW.seq_k fun K hK=>AW.region (by kernel_rfl) ?_
 simp -implicitDefEqProofs only[go_sem,seval,↓reduceIte,rdO_K,hw]
 refine hK _ ?_
 clear hK K
 cases b with
 | false =>
  rw [andThen_false] at hP
  refine AW.seq_k fun K hK=>AW.region (by kernel_rfl) ?_
  simp -implicitDefEqProofs only[go_sem,seval,↓reduceIte,rdO_K]
  refine RdS.call hG (hc) (gx:=gx) (by kernel_rfl) (fun F=>rfl) (by decide) (by first | rfl | (simp -implicitDefEqProofs only[go_sem,seval,↓reduceIte,List.map_cons,List.map_nil,encXN_K];try rfl)) (by first | rfl | (simp -implicitDefEqProofs only[go_sem,seval,↓reduceIte,List.map_cons,List.map_nil];try rfl)) (by first | rfl | (simp -implicitDefEqProofs only[go_sem,seval,↓reduceIte];try rfl)) (by first | rfl | (simp -implicitDefEqProofs only[go_sem,seval,↓reduceIte];try rfl)) fun gx2=>?_
  simp -implicitDefEqProofs only[go_sem,seval,↓reduceIte,sets]
  refine hK _ ?_
  clear hK K
  refine AW.ret ?_
  simp -implicitDefEqProofs only[go_sem,seval,↓reduceIte]
  refine endK_some ?_
  rw [hP]
  exact ⟨rfl,gx2,by first | rfl | (simp -implicitDefEqProofs only[go_sem,seval,↓reduceIte];try rfl),by first | rfl | (simp -implicitDefEqProofs only[go_sem,seval,↓reduceIte];try rfl)⟩
 | true =>
  rw [andThen_true] at hP
  refine AW.seq_k fun K hK=>AW.region (by kernel_rfl) ?_
  simp -implicitDefEqProofs only[go_sem,seval,↓reduceIte,rdO_K]
  refine RdS.call hG (hc) (gx:=gx) (by kernel_rfl) (fun F=>rfl) (by decide) (by first | rfl | (simp -implicitDefEqProofs only[go_sem,seval,↓reduceIte,List.map_cons,List.map_nil,encXN_K];try rfl)) (by first | rfl | (simp -implicitDefEqProofs only[go_sem,seval,↓reduceIte,List.map_cons,List.map_nil];try rfl)) (by first | rfl | (simp -implicitDefEqProofs only[go_sem,seval,↓reduceIte];try rfl)) (by first | rfl | (simp -implicitDefEqProofs only[go_sem,seval,↓reduceIte];try rfl)) fun gx2=>?_
  simp -implicitDefEqProofs only[go_sem,seval,↓reduceIte,sets]
  simp -implicitDefEqProofs only[go_sem,seval,↓reduceIte,rdO_K]
  refine RdS.call hG (rLast_spec G hG sl g a han) (gx:=gx2) (by kernel_rfl) (fun F=>rfl) (by decide) (by first | rfl | (simp -implicitDefEqProofs only[go_sem,seval,↓reduceIte,List.map_cons,List.map_nil,encXN_K];try rfl)) (by first | rfl | (simp -implicitDefEqProofs only[go_sem,seval,↓reduceIte,List.map_cons,List.map_nil];try rfl)) (by first | rfl | (simp -implicitDefEqProofs only[go_sem,seval,↓reduceIte];try rfl)) (by first | rfl | (simp -implicitDefEqProofs only[go_sem,seval,↓reduceIte];try rfl)) fun gx3=>?_
  simp -implicitDefEqProofs only[go_sem,seval,↓reduceIte,sets]
  simp -implicitDefEqProofs only[go_sem,seval,↓reduceIte,rdO_K]
  rw [← encXN_K ⟨op,0,[],a.last,-1,-1⟩]
  refine RdS.call hG (rPutN_spec G hG sl g a han ⟨op,0,[],a.last,-1,-1⟩) (gx:=gx3) (by kernel_rfl) (fun F=>rfl) (by decide) (by first | rfl | (simp -implicitDefEqProofs only[go_sem,seval,↓reduceIte,List.map_cons,List.map_nil,encXN_K];try rfl)) (by first | rfl | (simp -implicitDefEqProofs only[go_sem,seval,↓reduceIte,List.map_cons,List.map_nil];try rfl)) (by first | rfl | (simp -implicitDefEqProofs only[go_sem,seval,↓reduceIte];try rfl)) (by first | rfl | (simp -implicitDefEqProofs only[go_sem,seval,↓reduceIte];try rfl)) fun gx4=>?_
  simp -implicitDefEqProofs only[go_sem,seval,↓reduceIte,sets]
  refine hK _ ?_
  clear hK K
  refine AW.ret ?_
  simp -implicitDefEqProofs only[go_sem,seval,↓reduceIte]
  refine endK_some ?_
  rw [hP]
  exact ⟨rfl,gx4,by first | rfl | (simp -implicitDefEqProofs only[go_sem,seval,↓reduceIte];try rfl),by first | rfl | (simp -implicitDefEqProofs only[go_sem,seval,↓reduceIte];try rfl)⟩
theorem levK_bal {l:List Tk} {f:Nat} (k:Nat) (r:RS):Bal l 0 r (levK l (climbP l f) k r).2:=by
 rw [levK_climb (climbP_mono l f) (fun _ _=>climbP_ends)]
 exact Bal.then (aheadP_bal (climbP_bal l f) r) fun _=>(aheadP_bal (climbP_bal l f) r).trans (loopP_bal (climbP_bal l f) _ _ _)
theorem tailR_succ (l:List Tk) (inner:Inner) (n:Int) (m:Nat) (r:RS):tailR l inner n (m+1) r=if twoR l n r.i=0 then (true,r) else andThen (inner (n+1) r.adv) fun a=>tailR l inner n m (a.put ⟨twoR l n r.i,0,[],r.last,a.last,-1⟩):=rfl
theorem twoR_op {l:List Tk} {n:Int} {i:Nat} (h:twoR l n i≠0):i<l.length∧twoR l n i≤21:=by
 unfold twoR at h ⊢
 cases ho:ofI (nextP l i).text 2 with
 | none=>rw [ho] at h;exact absurd rfl h
 | some op =>
  have h2:=ofI_two ho
  have:opAt l i=some op:=by rw [opAt_two,ho]
  refine ⟨opAt_lt this,?_⟩
  simp only
  split<;>omega
theorem rLevel_spec (G:Nat→V) (hG:GOk G) (sl:Sl Tk) (hT:TkOk sl.l) (g:Nat):∀ (f:Nat) (r:RS),sl.l.length<f+r.i→RSok sl.l r →
  (∀ n,1≤n→n≤9→RdS 1012 [] G 57 [.int .i64 n] sl g r (.bool (climbP sl.l f n r).1) (climbP sl.l f n r).2) ∧
  RdS 1012 [] G 80 [] sl g r (.bool (climbP sl.l f 9 r).1) (climbP sl.l f 9 r).2:=by
 have hTl:=hT.len
 intro f
 induction f with
 | zero=>intro r hf hr;have:=hr.1;omega
 | succ f ih =>
 intro r hf hr
 have hin:InnR G sl g (climbP sl.l f) r.i:=⟨fun n r' h1 h9 hi hr'=>(ih r' (by omega) hr').1 n h1 h9,fun r' hi hr'=>(ih r' (by omega) hr').2⟩
 have hbs:=climbP_bal sl.l f
 have hun:=rUnary_spec G hG sl hT g r hr _ hin hbs
 have hcl:∀ k:Nat,climbP sl.l (f+1) (9-k) r=levK sl.l (climbP sl.l f) k r:=by
  intro k
  rw [levK_climb (climbP_mono sl.l f) (fun _ _=>climbP_ends)];rfl
 have h9:climbP sl.l (f+1) 9 r=unR sl.l (climbP sl.l f) r:=hcl 0
 rw [h9]
 refine ⟨?_,hun⟩
 suffices h:∀ k:Nat,k≤8→RdS 1012 [] G 57 [.int .i64 (9-k)] sl g r (.bool (levK sl.l (climbP sl.l f) k r).1) (levK sl.l (climbP sl.l f) k r).2 by
  intro n h1 hn9
  have:=h (9-n).toNat (by omega)
  rw [← hcl,show (9:Int)-((9-n).toNat:Nat)=n by omega] at this
  exact this
 intro k
 induction k with
 | zero =>
  intro _ gx
  refine Spec.of_code' 1000 46 [.tmp 4] Tryz.func57 rfl rfl rfl rfl fun X=>?_
  have hP:levK sl.l (climbP sl.l f) 0 r=unR sl.l (climbP sl.l f) r:=rfl
  generalize levK sl.l (climbP sl.l f) 0 r=res at hP ⊢
  generalize unR sl.l (climbP sl.l f) r=y at hP hun
  refine AW.seq_k fun K hK=>AW.region (by kernel_rfl) ?_
  simp -implicitDefEqProofs only[go_sem,seval,↓reduceIte]
  refine hK _ ?_
  clear hK K
  refine AW.seq_k fun K1 hK1=>?_
  refine AW.seq_k fun K hK=>AW.region (by kernel_rfl) ?_
  simp -implicitDefEqProofs only[go_sem,seval,↓reduceIte]
  refine hK _ ?_
  clear hK K
  refine AW.condS (by simp -implicitDefEqProofs only[go_sem,seval,↓reduceIte];rfl) (fun h8=>?_) (fun h8=>?_)
  ·cases h8
  refine AW.skip ?_
  simp -implicitDefEqProofs only[go_sem,seval,↓reduceIte]
  refine hK1 _ ?_
  refine AW.seq_k fun K2 hK2=>?_
  refine AW.seq_k fun K hK=>AW.region (by kernel_rfl) ?_
  simp -implicitDefEqProofs only[go_sem,seval,↓reduceIte]
  refine hK _ ?_
  clear hK K
  refine AW.condS (by simp -implicitDefEqProofs only[go_sem,seval,↓reduceIte];rfl) (fun h12=>?_) (fun h12=>?_)
  rotate_left
  ·cases h12
  refine AW.seq_k fun K hK=>AW.region (by kernel_rfl) ?_
  simp -implicitDefEqProofs only[go_sem,seval,↓reduceIte]
  refine RdS.call hG (hun) (gx:=gx) (by kernel_rfl) (fun F=>rfl) (by decide) (by first | rfl | (simp -implicitDefEqProofs only[go_sem,seval,↓reduceIte,List.map_cons,List.map_nil,encXN_K];try rfl)) (by first | rfl | (simp -implicitDefEqProofs only[go_sem,seval,↓reduceIte,List.map_cons,List.map_nil];try rfl)) (by first | rfl | (simp -implicitDefEqProofs only[go_sem,seval,↓reduceIte];try rfl)) (by first | rfl | (simp -implicitDefEqProofs only[go_sem,seval,↓reduceIte];try rfl)) fun gx1=>?_
  simp -implicitDefEqProofs only[go_sem,seval,↓reduceIte,sets]
  refine hK _ ?_
  clear hK K
  refine AW.ret ?_
  simp -implicitDefEqProofs only[go_sem,seval,↓reduceIte]
  refine endK_some ?_
  rw [hP]
  exact ⟨rfl,gx1,by first | rfl | (simp -implicitDefEqProofs only[go_sem,seval,↓reduceIte];try rfl),by first | rfl | (simp -implicitDefEqProofs only[go_sem,seval,↓reduceIte];try rfl)⟩
 | succ k ihk =>
  intro hk gx
  have ihk:=ihk (by omega)
  obtain ⟨n,hn⟩:∃ n:Int,n=8-k:=⟨_,rfl⟩
  have e9:(9:Int)-((k+1:Nat):Int)=n:=by omega
  have e9k:(9:Int)-(k:Int)=n+1:=by omega
  have hn1:1≤n∧n≤8:=by omega
  rw [e9]
  rw [e9k] at ihk
  refine Spec.of_code' 1000 46 [.tmp 4] Tryz.func57 rfl rfl rfl rfl fun X=>?_
  have hP:levK sl.l (climbP sl.l f) (k+1) r=andThen (levK sl.l (climbP sl.l f) k r) (tailR sl.l (climbP sl.l f) n (sl.l.length+1)):=by rw [levK,hn]
  have hlb:=levK_bal (l:=sl.l) (f:=f) k r
  generalize levK sl.l (climbP sl.l f) (k+1) r=res at hP ⊢
  generalize levK sl.l (climbP sl.l f) k r=y at hP ihk hlb
  obtain ⟨b,q0⟩:=y
  simp only at ihk hlb
  have q10:(n==10)=false:=by rw [beq_eq_false_iff_ne];omega
  have q9:(n==9)=false:=by rw [beq_eq_false_iff_ne];omega
  have hw1:IntKind.i64.wrap (n+1)=n+1:=w64 (by omega) (by omega)
  refine AW.seq_k fun K hK=>AW.region (by kernel_rfl) ?_
  simp -implicitDefEqProofs only[go_sem,seval,↓reduceIte]
  refine hK _ ?_
  clear hK K
  refine AW.seq_k fun K1 hK1=>?_
  refine AW.seq_k fun K hK=>AW.region (by kernel_rfl) ?_
  simp -implicitDefEqProofs only[go_sem,seval,↓reduceIte,q10]
  refine hK _ ?_
  clear hK K
  refine AW.condS (by simp -implicitDefEqProofs only[go_sem,seval,↓reduceIte];rfl) (fun h8=>?_) (fun h8=>?_)
  ·cases h8
  refine AW.skip ?_
  simp -implicitDefEqProofs only[go_sem,seval,↓reduceIte]
  refine hK1 _ ?_
  refine AW.seq_k fun K2 hK2=>?_
  refine AW.seq_k fun K hK=>AW.region (by kernel_rfl) ?_
  simp -implicitDefEqProofs only[go_sem,seval,↓reduceIte,q9]
  refine hK _ ?_
  clear hK K
  refine AW.condS (by simp -implicitDefEqProofs only[go_sem,seval,↓reduceIte];rfl) (fun h12=>?_) (fun h12=>?_)
  ·cases h12
  refine AW.skip ?_
  simp -implicitDefEqProofs only[go_sem,seval,↓reduceIte]
  refine hK2 _ ?_
  refine AW.seq_k fun K3 hK3=>?_
  cases b with
  | false =>
   rw [andThen_false] at hP
   refine AW.seq_k fun K hK=>AW.region (by kernel_rfl) ?_
   simp -implicitDefEqProofs only[go_sem,seval,↓reduceIte,hw1]
   refine RdS.call hG (ihk) (gx:=gx) (by kernel_rfl) (fun F=>rfl) (by decide) (by first | rfl | (simp -implicitDefEqProofs only[go_sem,seval,↓reduceIte,List.map_cons,List.map_nil,encXN_K];try rfl)) (by first | rfl | (simp -implicitDefEqProofs only[go_sem,seval,↓reduceIte,List.map_cons,List.map_nil];try rfl)) (by first | rfl | (simp -implicitDefEqProofs only[go_sem,seval,↓reduceIte];try rfl)) (by first | rfl | (simp -implicitDefEqProofs only[go_sem,seval,↓reduceIte];try rfl)) fun gx1=>?_
   simp -implicitDefEqProofs only[go_sem,seval,↓reduceIte,sets]
   refine hK _ ?_
   clear hK K
   refine AW.condS (by simp -implicitDefEqProofs only[go_sem,seval,↓reduceIte];rfl) (fun h19=>?_) (fun h19=>?_)
   rotate_left
   ·cases h19
   refine AW.seq_k fun K hK=>AW.region (by kernel_rfl) ?_
   simp -implicitDefEqProofs only[go_sem,seval,↓reduceIte]
   refine hK _ ?_
   clear hK K
   refine AW.ret ?_
   simp -implicitDefEqProofs only[go_sem,seval,↓reduceIte]
   refine endK_some ?_
   rw [hP]
   exact ⟨rfl,gx1,by first | rfl | (simp -implicitDefEqProofs only[go_sem,seval,↓reduceIte];try rfl),by first | rfl | (simp -implicitDefEqProofs only[go_sem,seval,↓reduceIte];try rfl)⟩
  | true =>
  rw [andThen_true] at hP
  have hq0:=hlb.ok hr
  refine AW.seq_k fun K hK=>AW.region (by kernel_rfl) ?_
  simp -implicitDefEqProofs only[go_sem,seval,↓reduceIte,hw1]
  refine RdS.call hG (ihk) (gx:=gx) (by kernel_rfl) (fun F=>rfl) (by decide) (by first | rfl | (simp -implicitDefEqProofs only[go_sem,seval,↓reduceIte,List.map_cons,List.map_nil,encXN_K];try rfl)) (by first | rfl | (simp -implicitDefEqProofs only[go_sem,seval,↓reduceIte,List.map_cons,List.map_nil];try rfl)) (by first | rfl | (simp -implicitDefEqProofs only[go_sem,seval,↓reduceIte];try rfl)) (by first | rfl | (simp -implicitDefEqProofs only[go_sem,seval,↓reduceIte];try rfl)) fun gx1=>?_
  simp -implicitDefEqProofs only[go_sem,seval,↓reduceIte,sets]
  refine hK _ ?_
  clear hK K
  refine AW.condS (by simp -implicitDefEqProofs only[go_sem,seval,↓reduceIte];rfl) (fun h19=>?_) (fun h19=>?_)
  ·cases h19
  refine AW.skip ?_
  simp -implicitDefEqProofs only[go_sem,seval,↓reduceIte]
  refine hK3 _ ?_
  refine AW.block ?_
  refine AW.while (fun (x:Nat × Nat × RS)=>st [(0,.ptr 8 g 0),(1,.int .i64 n)] [(8,rdO 1012 [] sl g x.1 x.2.2),(1012,ndO x.1 x.2.2.nodes)])
   (fun x=>res=tailR sl.l (climbP sl.l f) n x.2.1 x.2.2∧RSok sl.l x.2.2∧r.i≤x.2.2.i∧sl.l.length<x.2.1+x.2.2.i) (fun x=>x.2.1) (gx1,sl.l.length+1,q0) ⟨hP,hq0,hlb.up,Nat.lt_add_right _ (Nat.lt_succ_self _)⟩
   (Weak.st (by simp -implicitDefEqProofs only[go_sem,seval,↓reduceIte];try rfl) (by simp -implicitDefEqProofs only[go_sem,seval,↓reduceIte];try rfl)) ?_
  clear hP
  rintro ⟨gy,m,q⟩ ⟨hP,hq,hqi,hm⟩ L3 hL3
  replace hP:res=tailR sl.l (climbP sl.l f) n m q:=hP
  replace hq:RSok sl.l q:=hq
  replace hqi:r.i≤q.i:=hqi
  replace hm:sl.l.length<m+q.i:=hm
  obtain ⟨m,rfl⟩:∃ m',m=m'+1:=⟨m-1,by have:=hq.1;omega⟩
  have hqI:q.i<1000000:=by have:=hq.1;omega
  have hqn:q.nodes.length<1000000:=by have:=hq.1;have:=hq.2;omega
  rw [tailR_succ] at hP
  have htw:=twoR_op (l:=sl.l) (n:=n) (i:=q.i)
  refine AW.block ?_
  refine AW.seq_k fun K hK=>AW.region (by kernel_rfl) ?_
  simp -implicitDefEqProofs only[go_sem,seval,↓reduceIte]
  refine RdS.call hG (rOfTwo_spec G hG sl hT g q hqI n) (gx:=gy) (by kernel_rfl) (fun F=>rfl) (by decide) (by first | rfl | (simp -implicitDefEqProofs only[go_sem,seval,↓reduceIte,List.map_cons,List.map_nil,encXN_K];try rfl)) (by first | rfl | (simp -implicitDefEqProofs only[go_sem,seval,↓reduceIte,List.map_cons,List.map_nil];try rfl)) (by first | rfl | (simp -implicitDefEqProofs only[go_sem,seval,↓reduceIte];try rfl)) (by first | rfl | (simp -implicitDefEqProofs only[go_sem,seval,↓reduceIte];try rfl)) fun gz=>?_
  simp -implicitDefEqProofs only[go_sem,seval,↓reduceIte,sets]
  refine hK _ ?_
  clear hK K
  generalize twoR sl.l n q.i=op at hP htw ⊢
  refine AW.seq_k fun K4 hK4=>?_
  refine AW.seq_k fun K hK=>AW.region (by kernel_rfl) ?_
  simp -implicitDefEqProofs only[go_sem,seval,↓reduceIte]
  refine hK _ ?_
  clear hK K
  by_cases ho:op=0
  ·have e1:(((op:Nat):Int)==0)=true:=by rw [ho];rfl
   rw [if_pos ho] at hP
   rw [e1]
   refine AW.condS (by simp -implicitDefEqProofs only[go_sem,seval,↓reduceIte];rfl) (fun h24=>?_) (fun h24=>?_)
   rotate_left
   ·cases h24
   refine AW.seq_k fun K hK=>AW.region (by kernel_rfl) ?_
   simp -implicitDefEqProofs only[go_sem,seval,↓reduceIte]
   refine hK _ ?_
   clear hK K
   refine AW.ret ?_
   simp -implicitDefEqProofs only[go_sem,seval,↓reduceIte]
   refine endK_some ?_
   rw [hP]
   exact ⟨rfl,gz,by first | rfl | (simp -implicitDefEqProofs only[go_sem,seval,↓reduceIte];try rfl),by first | rfl | (simp -implicitDefEqProofs only[go_sem,seval,↓reduceIte];try rfl)⟩
  have e1:(((op:Nat):Int)==0)=false:=by rw [beq_eq_false_iff_ne];omega
  rw [if_neg ho] at hP
  rw [e1]
  refine AW.condS (by simp -implicitDefEqProofs only[go_sem,seval,↓reduceIte];rfl) (fun h24=>?_) (fun h24=>?_)
  ·cases h24
  refine AW.skip ?_
  simp -implicitDefEqProofs only[go_sem,seval,↓reduceIte]
  refine hK4 _ ?_
  obtain ⟨hil,hop21⟩:=htw ho
  have hw:IntKind.i64.wrap ((q.i:Int)+1)=((q.i+1:Nat):Int):=by rw [w64 (by omega) (by omega)];omega
  have hadv:RSok sl.l q.adv:=(Bal.adv hil).ok hq
  have hc:=hin.lev (n+1) q.adv (by omega) (by omega) (by show r.i<q.i+1;omega) hadv
  have hcb:=hbs (n+1) q.adv
  generalize climbP sl.l f (n+1) q.adv=z at hP hc hcb
  obtain ⟨b,a⟩:=z
  simp only at hc hcb
  have ha:=hcb.ok hadv
  have haup:q.i+1≤a.i:=hcb.up
  have han:a.nodes.length<1000000:=by have:=ha.1;have:=ha.2;omega
  refine AW.seq_k fun K hK=>AW.region (by kernel_rfl) ?_
  simp -implicitDefEqProofs only[go_sem,seval,↓reduceIte]
  refine RdS.call hG (rLast_spec G hG sl g q hqn) (gx:=gz) (by kernel_rfl) (fun F=>rfl) (by decide) (by first | rfl | (simp -implicitDefEqProofs only[go_sem,seval,↓reduceIte,List.map_cons,List.map_nil,encXN_K];try rfl)) (by first | rfl | (simp -implicitDefEqProofs only[go_sem,seval,↓reduceIte,List.map_cons,List.map_nil];try rfl)) (by first | rfl | (simp -implicitDefEqProofs only[go_sem,seval,↓reduceIte];try rfl)) (by first | rfl | (simp -implicitDefEqProofs only[go_sem,seval,↓reduceIte];try rfl)) fun gz1=>?_
  simp -implicitDefEqProofs only[go_sem,seval,↓reduceIte,sets]
  refine hK _ ?_
  clear hK K
  refine AW.seq_k fun K hK=>AW.region (by kernel_rfl) ?_
  simp -implicitDefEqProofs only[go_sem,seval,↓reduceIte,rdO_K,hw]
  refine hK _ ?_
  clear hK K
  refine AW.seq_k fun K10 hK10=>?_
  cases b with
  | false =>
   rw [andThen_false] at hP
   refine AW.seq_k fun K hK=>AW.region (by kernel_rfl) ?_
   simp -implicitDefEqProofs only[go_sem,seval,↓reduceIte,rdO_K,hw1]
   refine RdS.call hG (hc) (gx:=gz1) (by kernel_rfl) (fun F=>rfl) (by decide) (by first | rfl | (simp -implicitDefEqProofs only[go_sem,seval,↓reduceIte,List.map_cons,List.map_nil,encXN_K];try rfl)) (by first | rfl | (simp -implicitDefEqProofs only[go_sem,seval,↓reduceIte,List.map_cons,List.map_nil];try rfl)) (by first | rfl | (simp -implicitDefEqProofs only[go_sem,seval,↓reduceIte];try rfl)) (by first | rfl | (simp -implicitDefEqProofs only[go_sem,seval,↓reduceIte];try rfl)) fun gz2=>?_
   simp -implicitDefEqProofs only[go_sem,seval,↓reduceIte,sets]
   refine hK _ ?_
   clear hK K
   refine AW.condS (by simp -implicitDefEqProofs only[go_sem,seval,↓reduceIte];rfl) (fun h11=>?_) (fun h11=>?_)
   ·refine AW.seq_k fun K hK=>AW.region (by kernel_rfl) ?_
    simp -implicitDefEqProofs only[go_sem,seval,↓reduceIte]
    refine hK _ ?_
    clear hK K
    refine AW.ret ?_
    simp -implicitDefEqProofs only[go_sem,seval,↓reduceIte]
    refine endK_some ?_
    rw [hP]
    exact ⟨rfl,gz2,by first | rfl | (simp -implicitDefEqProofs only[go_sem,seval,↓reduceIte];try rfl),by first | rfl | (simp -implicitDefEqProofs only[go_sem,seval,↓reduceIte];try rfl)⟩
   ·cases h11
  | true =>
   rw [andThen_true] at hP
   refine AW.seq_k fun K hK=>AW.region (by kernel_rfl) ?_
   simp -implicitDefEqProofs only[go_sem,seval,↓reduceIte,rdO_K,hw1]
   refine RdS.call hG (hc) (gx:=gz1) (by kernel_rfl) (fun F=>rfl) (by decide) (by first | rfl | (simp -implicitDefEqProofs only[go_sem,seval,↓reduceIte,List.map_cons,List.map_nil,encXN_K];try rfl)) (by first | rfl | (simp -implicitDefEqProofs only[go_sem,seval,↓reduceIte,List.map_cons,List.map_nil];try rfl)) (by first | rfl | (simp -implicitDefEqProofs only[go_sem,seval,↓reduceIte];try rfl)) (by first | rfl | (simp -implicitDefEqProofs only[go_sem,seval,↓reduceIte];try rfl)) fun gz2=>?_
   simp -implicitDefEqProofs only[go_sem,seval,↓reduceIte,sets]
   refine hK _ ?_
   clear hK K
   refine AW.condS (by simp -implicitDefEqProofs only[go_sem,seval,↓reduceIte];rfl) (fun h11=>?_) (fun h11=>?_)
   ·cases h11
   refine AW.skip ?_
   simp -implicitDefEqProofs only[go_sem,seval,↓reduceIte]
   refine hK10 _ ?_
   refine AW.region (by kernel_rfl) ?_
   simp -implicitDefEqProofs only[go_sem,seval,↓reduceIte]
   refine RdS.call hG (rLast_spec G hG sl g a han) (gx:=gz2) (by kernel_rfl) (fun F=>rfl) (by decide) (by first | rfl | (simp -implicitDefEqProofs only[go_sem,seval,↓reduceIte,List.map_cons,List.map_nil,encXN_K];try rfl)) (by first | rfl | (simp -implicitDefEqProofs only[go_sem,seval,↓reduceIte,List.map_cons,List.map_nil];try rfl)) (by first | rfl | (simp -implicitDefEqProofs only[go_sem,seval,↓reduceIte];try rfl)) (by first | rfl | (simp -implicitDefEqProofs only[go_sem,seval,↓reduceIte];try rfl)) fun gz3=>?_
   simp -implicitDefEqProofs only[go_sem,seval,↓reduceIte,sets]
   simp -implicitDefEqProofs only[go_sem,seval,↓reduceIte,rdO_K]
   rw [← encXN_K ⟨op,0,[],q.last,a.last,-1⟩]
   refine RdS.call hG (rPutN_spec G hG sl g a han ⟨op,0,[],q.last,a.last,-1⟩) (gx:=gz3) (by kernel_rfl) (fun F=>rfl) (by decide) (by first | rfl | (simp -implicitDefEqProofs only[go_sem,seval,↓reduceIte,List.map_cons,List.map_nil,encXN_K];try rfl)) (by first | rfl | (simp -implicitDefEqProofs only[go_sem,seval,↓reduceIte,List.map_cons,List.map_nil];try rfl)) (by first | rfl | (simp -implicitDefEqProofs only[go_sem,seval,↓reduceIte];try rfl)) (by first | rfl | (simp -implicitDefEqProofs only[go_sem,seval,↓reduceIte];try rfl)) fun gz4=>?_
   simp -implicitDefEqProofs only[go_sem,seval,↓reduceIte,sets]
   have hres:RSok sl.l (a.put ⟨op,0,[],q.last,a.last,-1⟩):=⟨ha.1,by
    have h1:=hcb.cnt
    have h2:=hq.2
    show (a.nodes++[_]).length≤a.i
    rw [List.length_append,List.length_singleton]
    have h3:a.nodes.length+(q.i+1)+0≤q.nodes.length+a.i:=h1
    omega⟩
   refine hL3 _ ⟨(gz4,m,a.put ⟨op,0,[],q.last,a.last,-1⟩),Nat.lt_succ_self _,⟨hP,hres,?_,?_⟩,Weak.st (by simp -implicitDefEqProofs only[go_sem,seval,↓reduceIte];try rfl) (by simp -implicitDefEqProofs only[go_sem,seval,↓reduceIte];try exact ⟨rfl,rfl⟩)⟩
   ·show r.i≤a.i
    omega
   ·show sl.l.length<m+a.i
    omega
end Go.Hs
end

section
namespace Go.Hs
open Go.Proofs
set_option maxRecDepth 10000
def encRr (c:Col) (p:List XN × Int × Int):V := .tuple [encXs c p.1,.int .i64 p.2.1,.int .i64 p.2.2]
theorem rFrom_spec (G:Nat→V) (hG:GOk G) (c:Col) (sl:Sl Tk) (hT:TkOk sl.l):Spec Tryz.prog G 34 [encSl c 3 encTk sl] hNone (fun v _=>v=encRr .new (fromP sl.l)):=by
 have hTl:=hT.len
 refine Spec.of_code' 0 34 [.tmp 2,.tmp 3,.tmp 4] Tryz.func34 rfl rfl rfl rfl fun X=>?_
 have hP:fromP sl.l=if (climbP sl.l (sl.l.length+1) 1 ⟨0,[],0⟩).1=false then (([]:List XN),((climbP sl.l (sl.l.length+1) 1 ⟨0,[],0⟩).2.i:Int),(climbP sl.l (sl.l.length+1) 1 ⟨0,[],0⟩).2.e)
  else if depthP (climbP sl.l (sl.l.length+1) 1 ⟨0,[],0⟩).2.nodes > 64 then ([],0,3) else ((climbP sl.l (sl.l.length+1) 1 ⟨0,[],0⟩).2.nodes,((climbP sl.l (sl.l.length+1) 1 ⟨0,[],0⟩).2.i:Int),(0:Int)):=rfl
 have hr0:RSok sl.l ⟨0,[],0⟩:=⟨Nat.zero_le _,Nat.le_refl _⟩
 have hcl:=fun g=>(rLevel_spec G hG sl hT g (sl.l.length+1) ⟨0,[],0⟩ (Nat.lt_succ_self _) hr0).1 1 (by decide) (by decide)
 have hnm2:=climb_names hT
 have hok:=(climbP_bal sl.l (sl.l.length+1) 1 ⟨0,[],0⟩)
 generalize fromP sl.l=res at hP ⊢
 generalize climbP sl.l (sl.l.length+1) 1 ⟨0,[],0⟩=y at hP hcl hok hnm2
 obtain ⟨b,r⟩:=y
 simp only at hP hcl hok hnm2
 have hrl:r.nodes.length<1000000:=by have:=(hok.ok hr0);have h1:=this.1;have h2:=this.2;omega
 refine AW.seq_k fun K hK=>AW.region (by kernel_rfl) ?_
 simp -implicitDefEqProofs only[go_sem,seval,↓reduceIte]
 refine hK _ ?_
 clear hK K
 refine AW.seq_k fun K hK=>AW.region (by kernel_rfl) ?_
 simp -implicitDefEqProofs only[go_sem,seval,↓reduceIte]
 intro g8
 refine hK _ ?_
 clear hK K
 refine AW.weak (Weak.stF (fun _=>false) (l:=[(5,.ptr 8 g8 0)]) (m:=[(8,.cells .new g8 0 [encSl .any 3 encTk sl,.int .i64 0,.nils,.int .i64 0])]) ?_ ?_) ?_
 ·simp -implicitDefEqProofs only[go_sem,seval,↓reduceIte]
  exact Fz.same _
 ·simp only [allFzO_cons,allFzO_nil,and_true]
  exact FzO.of (c := .new) (fz:=0) (cs:=[encSl c 3 encTk sl,.int .i64 0,.nils,.int .i64 0]) rfl (by simp -implicitDefEqProofs only[go_sem,seval,↓reduceIte];try rfl) ⟨Fz.any (recol_tks _ _ _),Fz.same _,Fz.same _,Fz.same _,trivial⟩
 refine AW.seq_k fun K1 hK1=>?_
 refine AW.seq_k fun K hK=>AW.region (by kernel_rfl) ?_
 simp -implicitDefEqProofs only[go_sem,seval,↓reduceIte]
 refine RdS.callN hG (hcl g8) (by kernel_rfl) (fun F=>rfl) rfl rfl rfl _ (by simp -implicitDefEqProofs only[go_sem,seval,↓reduceIte];rfl) (by simp only [V.recolL_eq,List.map_cons,List.map_nil,recol_tks];rfl) (by simp -implicitDefEqProofs only[go_sem,seval,↓reduceIte]) fun gx=>?_
 simp -implicitDefEqProofs only[go_sem,seval,↓reduceIte,sets]
 refine hK _ ?_
 clear hK K
 cases b with
 | false =>
  refine AW.condS (by simp -implicitDefEqProofs only[go_sem,seval,↓reduceIte];rfl) (fun h9=>?_) (fun h9=>?_)
  rotate_left
  ·cases h9
  refine AW.weak (Weak.stF (fun o=>o==8) (l:=[(5,.view .new (.agg [encSl .any 3 encTk sl,.int .i64 r.i,grown 1012 gx 6 r.nodes,.int .i64 r.e]))]) (m:=[]) ?_ trivial) ?_
  ·simp -implicitDefEqProofs only[go_sem,seval,↓reduceIte]
   exact Fz.ptr (v := .agg [encSl .any 3 encTk sl,.int .i64 r.i,grown 1012 gx 6 r.nodes,.int .i64 r.e]) (c := .new) (fz:=0) rfl (by simp -implicitDefEqProofs only[go_sem,seval,↓reduceIte];try rfl)
  refine AW.seq_k fun K hK=>AW.regionT ⟨fun _ => .top,fun _ => .pure⟩ (by kernel_rfl) hG (by kernel_rfl) (by kernel_rfl) ?_
  simp -implicitDefEqProofs only[go_sem,seval,↓reduceIte]
  refine hK _ ?_
  clear hK K
  refine AW.ret ?_
  simp -implicitDefEqProofs only[go_sem,seval,↓reduceIte]
  refine endK_some ?_
  rw [hP];rfl
 | true =>
 refine AW.condS (by simp -implicitDefEqProofs only[go_sem,seval,↓reduceIte];rfl) (fun h9=>?_) (fun h9=>?_)
 ·cases h9
 refine AW.skip ?_
 simp -implicitDefEqProofs only[go_sem,seval,↓reduceIte]
 refine hK1 _ ?_
 refine AW.weak (Weak.stF (fun o=>o==1012) (l:=[(5,.ptr 8 g8 0)]) (m:=[(8,.cells .new g8 0 [encSl .any 3 encTk sl,.int .i64 r.i,encXs .new r.nodes,.int .i64 r.e])]) ?_ ?_) ?_
 ·simp -implicitDefEqProofs only[go_sem,seval,↓reduceIte]
  exact Fz.same _
 ·simp only [allFzO_cons,allFzO_nil,and_true]
  exact FzO.of (c := .new) (fz:=0) (cs:=[encSl .any 3 encTk sl,.int .i64 r.i,grown 1012 gx 6 r.nodes,.int .i64 r.e]) rfl (by simp -implicitDefEqProofs only[go_sem,seval,↓reduceIte];try rfl) ⟨Fz.same _,Fz.same _,Fz.grown rfl (by simp -implicitDefEqProofs only[go_sem,seval,↓reduceIte];try rfl) encXN_cells,Fz.same _,trivial⟩
 rw [if_neg (by simp)] at hP
 refine AW.seq_k fun K2 hK2=>?_
 refine AW.seq_k fun K hK=>AW.region (by kernel_rfl) ?_
 simp -implicitDefEqProofs only[go_sem,seval,↓reduceIte,encXs]
 refine CallA.pure hG (by kernel_rfl) ?_
 simp -implicitDefEqProofs only[go_sem,seval,↓reduceIte,recol_xns]
 refine (rDepthN_spec G hG _ (grownS r.nodes) (by rw [grownS_l];exact hrl) (by rw [grownS_l];exact hnm2)).mono ?_
 rintro _ _ rfl
 rw [grownS_l]
 simp -implicitDefEqProofs only[go_sem,seval,↓reduceIte]
 refine hK _ ?_
 clear hK K
 refine AW.condS (by simp -implicitDefEqProofs only[go_sem,seval,↓reduceIte];rfl) (fun h26=>?_) (fun h26=>?_)
 ·have h26:depthP r.nodes > 64:=by simpa using h26
  rw [if_pos h26] at hP
  refine AW.seq_k fun K hK=>AW.region (by kernel_rfl) ?_
  simp -implicitDefEqProofs only[go_sem,seval,↓reduceIte]
  refine hK _ ?_
  clear hK K
  refine AW.ret ?_
  simp -implicitDefEqProofs only[go_sem,seval,↓reduceIte]
  refine endK_some ?_
  rw [hP];rfl
 have h26:¬ depthP r.nodes > 64:=by simpa using h26
 rw [if_neg h26] at hP
 refine AW.skip ?_
 simp -implicitDefEqProofs only[go_sem,seval,↓reduceIte]
 refine hK2 _ ?_
 refine AW.weak (Weak.stF (fun o=>o==8) (l:=[(5,.view .new (.agg [encSl .any 3 encTk sl,.int .i64 r.i,encXs .new r.nodes,.int .i64 r.e]))]) (m:=[]) ?_ trivial) ?_
 ·simp -implicitDefEqProofs only[go_sem,seval,↓reduceIte]
  exact Fz.ptr (v := .agg [encSl .any 3 encTk sl,.int .i64 r.i,encXs .new r.nodes,.int .i64 r.e]) (c := .new) (fz:=0) rfl (by simp -implicitDefEqProofs only[go_sem,seval,↓reduceIte];try rfl)
 refine AW.seq_k fun K hK=>AW.regionT ⟨fun _ => .top,fun _ => .pure⟩ (by kernel_rfl) hG (by kernel_rfl) (by kernel_rfl) ?_
 simp -implicitDefEqProofs only[go_sem,seval,↓reduceIte,encXs]
 refine hK _ ?_
 clear hK K
 refine AW.ret ?_
 simp -implicitDefEqProofs only[go_sem,seval,↓reduceIte]
 refine endK_some ?_
 rw [hP];rfl
theorem rParse8_spec (G:Nat→V) (hG:GOk G) (s:List UInt8) (hs:s.length<100000):Spec Tryz.prog G 31 [.str s] hNone (fun v _=>v=encRr .new (exprP s)):=by
 refine Spec.of_code' 0 50 [.tmp 2,.tmp 3,.tmp 4] Tryz.func31 rfl rfl rfl rfl fun X=>?_
 have hP:exprP s=if (toksP s).2.2≠0 then (([]:List XN),(toksP s).2.1,(toksP s).2.2)
  else if (fromP (toksP s).1).2.2=3 then ([],0,3)
  else if (fromP (toksP s).1).2.2=0∧(fromP (toksP s).1).2.1=((toksP s).1.length:Nat) then ((fromP (toksP s).1).1,0,0)
  else ([],if (fromP (toksP s).1).2.1=((toksP s).1.length:Nat) then (s.length:Int) else ((toksP s).1.getD (fromP (toksP s).1).2.1.toNat ⟨0,[],0⟩).pos,if (fromP (toksP s).1).2.2=0 then 80 else (fromP (toksP s).1).2.2):=rfl
 generalize exprP s=res at hP ⊢
 have hT:=toks_ok hs
 have hl:=rTokens_spec G hG s hs
 have hfr:=fun c=>rFrom_spec G hG c (grownS (toksP s).1) (by rw [grownS_l];exact hT)
 simp only [grownS_l] at hfr
 have hb:=fromP_bnd (l:=(toksP s).1)
 generalize toksP s=t at hP hT hl hfr hb
 generalize fromP t.1=p at hP hfr hb
 obtain ⟨l,at0,e0⟩:=t
 obtain ⟨ns,i,e⟩:=p
 simp only at hP hT hfr hb
 refine AW.seq_k fun K hK=>AW.region (by kernel_rfl) ?_
 simp -implicitDefEqProofs only[go_sem,seval,↓reduceIte]
 refine hK _ ?_
 clear hK K
 refine AW.seq_k fun K hK=>AW.region (by kernel_rfl) ?_
 simp -implicitDefEqProofs only[go_sem,seval,↓reduceIte]
 refine CallA.pure hG (by kernel_rfl) ?_
 simp -implicitDefEqProofs only[go_sem,seval,↓reduceIte]
 refine hl.mono ?_
 rintro _ _ rfl
 simp -implicitDefEqProofs only[go_sem,seval,↓reduceIte,encTok,encTks,recol_tks]
 refine hK _ ?_
 clear hK K
 refine AW.seq_k fun K1 hK1=>?_
 refine AW.seq_k fun K hK=>AW.region (by kernel_rfl) ?_
 simp -implicitDefEqProofs only[go_sem,seval,↓reduceIte]
 refine hK _ ?_
 clear hK K
 by_cases he0:e0=0
 rotate_left
 ·have q1:(e0 != 0)=true:=by simpa using he0
  rw [if_pos he0] at hP
  rw [q1]
  refine AW.condS (by simp -implicitDefEqProofs only[go_sem,seval,↓reduceIte];rfl) (fun h17=>?_) (fun h17=>?_)
  ·refine AW.seq_k fun K hK=>AW.region (by kernel_rfl) ?_
   simp -implicitDefEqProofs only[go_sem,seval,↓reduceIte]
   refine hK _ ?_
   clear hK K
   refine AW.ret ?_
   simp -implicitDefEqProofs only[go_sem,seval,↓reduceIte]
   refine endK_some ?_
   rw [hP];rfl
  ·cases h17
 have q1:(e0 != 0)=false:=by simpa using he0
 rw [if_neg (by simpa using he0)] at hP
 rw [q1]
 refine AW.condS (by simp -implicitDefEqProofs only[go_sem,seval,↓reduceIte];rfl) (fun h17=>?_) (fun h17=>?_)
 ·cases h17
 refine AW.skip ?_
 simp -implicitDefEqProofs only[go_sem,seval,↓reduceIte]
 refine hK1 _ ?_
 refine AW.seq_k fun K hK=>AW.region (by kernel_rfl) ?_
 simp -implicitDefEqProofs only[go_sem,seval,↓reduceIte]
 refine CallA.pure hG (by kernel_rfl) ?_
 simp -implicitDefEqProofs only[go_sem,seval,↓reduceIte,recol_tks]
 refine (hfr _).mono ?_
 rintro _ _ rfl
 simp -implicitDefEqProofs only[go_sem,seval,↓reduceIte,encRr,encXs,recol_xns]
 refine hK _ ?_
 clear hK K
 refine AW.seq_k fun K2 hK2=>?_
 refine AW.seq_k fun K hK=>AW.region (by kernel_rfl) ?_
 simp -implicitDefEqProofs only[go_sem,seval,↓reduceIte]
 refine hK _ ?_
 clear hK K
 by_cases he3:e=3
 ·have q3:(e==3)=true:=by simpa using he3
  rw [if_pos he3] at hP
  rw [q3]
  refine AW.condS (by simp -implicitDefEqProofs only[go_sem,seval,↓reduceIte];rfl) (fun h27=>?_) (fun h27=>?_)
  ·refine AW.seq_k fun K hK=>AW.region (by kernel_rfl) ?_
   simp -implicitDefEqProofs only[go_sem,seval,↓reduceIte]
   refine hK _ ?_
   clear hK K
   refine AW.ret ?_
   simp -implicitDefEqProofs only[go_sem,seval,↓reduceIte]
   refine endK_some ?_
   rw [hP];rfl
  ·cases h27
 have q3:(e==3)=false:=by simpa using he3
 rw [if_neg he3] at hP
 rw [q3]
 refine AW.condS (by simp -implicitDefEqProofs only[go_sem,seval,↓reduceIte];rfl) (fun h27=>?_) (fun h27=>?_)
 ·cases h27
 refine AW.skip ?_
 simp -implicitDefEqProofs only[go_sem,seval,↓reduceIte]
 refine hK2 _ ?_
 refine AW.seq_k fun K hK=>AW.region (by kernel_rfl) ?_
 simp -implicitDefEqProofs only[go_sem,seval,↓reduceIte]
 refine hK _ ?_
 clear hK K
 obtain ⟨m,rfl⟩:∃ m:Nat,i=m:=⟨i.toNat,by omega⟩
 have hP2:res=if e≠0 then ([],(if (m:Int)=(l.length:Nat) then (s.length:Int) else (l.getD m ⟨0,[],0⟩).pos),e) else if m<l.length then ([],(if (m:Int)=(l.length:Nat) then (s.length:Int) else (l.getD m ⟨0,[],0⟩).pos),80) else (ns,0,0):=by
  rw [hP,Int.toNat_natCast]
  by_cases he:e=0
  ·rw [if_neg (show ¬ e≠0 by simpa using he)]
   by_cases hm:m<l.length
   ·rw [if_neg (by omega),if_pos hm,if_pos he]
   ·rw [if_pos ⟨he,by omega⟩,if_neg hm]
  ·rw [if_pos he,if_neg (fun h=>he h.1),if_neg he]
 clear hP
 generalize hpl:(if (m:Int)=(l.length:Nat) then (s.length:Int) else (l.getD m ⟨0,[],0⟩).pos)=pl at hP2
 refine AW.seqJ (fun (_:Unit)=>st [(0,.str s),(5,encSl .new 3 encTk (grownS l)),(7,.int .i64 e),(8,encSl .new 6 encXN (grownS ns)),(9,.int .i64 m),(10,.int .i64 pl)] []) (fun _=>True) (fun K3 hK3=>?_) ?_
 ·refine AW.seq_k fun K hK=>AW.region (by kernel_rfl) ?_
  simp -implicitDefEqProofs only[go_sem,seval,↓reduceIte]
  refine hK _ ?_
  clear hK K
  by_cases hm:m<l.length
  ·have q4:decide (((m:Nat):Int)<((l.length:Nat):Int))=true:=by rw [decide_eq_true_iff];omega
   obtain ⟨tk,htk⟩:∃ tk,l[m]? = some tk:=⟨_,List.getElem?_eq_getElem hm⟩
   have hgd:l.getD m ⟨0,[],0⟩=tk:=by rw [List.getD_eq_getElem?_getD,htk];rfl
   rw [if_neg (by omega),hgd] at hpl
   rw [q4]
   refine AW.condS (by simp -implicitDefEqProofs only[go_sem,seval,↓reduceIte];rfl) (fun h34=>?_) (fun h34=>?_)
   rotate_left
   ·cases h34
   refine AW.region (by kernel_rfl) ?_
   simp -implicitDefEqProofs only[go_sem,seval,↓reduceIte,htk,encTk_K]
   exact hK3 _ () trivial (Weak.st (by rw [← hpl];simp -implicitDefEqProofs only[go_sem,seval,↓reduceIte];try rfl) (by simp -implicitDefEqProofs only[go_sem,seval,↓reduceIte]))
  ·have q4:decide (((m:Nat):Int)<((l.length:Nat):Int))=false:=by rw [decide_eq_false_iff_not];omega
   rw [if_pos (by omega)] at hpl
   rw [q4]
   refine AW.condS (by simp -implicitDefEqProofs only[go_sem,seval,↓reduceIte];rfl) (fun h34=>?_) (fun h34=>?_)
   ·cases h34
   refine AW.skip ?_
   simp -implicitDefEqProofs only[go_sem,seval,↓reduceIte]
   exact hK3 _ () trivial (Weak.st (by rw [← hpl];simp -implicitDefEqProofs only[go_sem,seval,↓reduceIte];try rfl) (by simp -implicitDefEqProofs only[go_sem,seval,↓reduceIte]))
 intro _ _
 refine AW.seq_k fun K4 hK4=>?_
 refine AW.seq_k fun K hK=>AW.region (by kernel_rfl) ?_
 simp -implicitDefEqProofs only[go_sem,seval,↓reduceIte]
 refine hK _ ?_
 clear hK K
 by_cases he:e=0
 rotate_left
 ·have q5:(e != 0)=true:=by simpa using he
  rw [if_pos he] at hP2
  rw [q5]
  refine AW.condS (by simp -implicitDefEqProofs only[go_sem,seval,↓reduceIte];rfl) (fun h41=>?_) (fun h41=>?_)
  ·refine AW.seq_k fun K hK=>AW.region (by kernel_rfl) ?_
   simp -implicitDefEqProofs only[go_sem,seval,↓reduceIte]
   refine hK _ ?_
   clear hK K
   refine AW.ret ?_
   simp -implicitDefEqProofs only[go_sem,seval,↓reduceIte]
   refine endK_some ?_
   rw [hP2];rfl
  ·cases h41
 have q5:(e != 0)=false:=by simpa using he
 rw [if_neg (by simpa using he)] at hP2
 rw [q5]
 refine AW.condS (by simp -implicitDefEqProofs only[go_sem,seval,↓reduceIte];rfl) (fun h41=>?_) (fun h41=>?_)
 ·cases h41
 refine AW.skip ?_
 simp -implicitDefEqProofs only[go_sem,seval,↓reduceIte]
 refine hK4 _ ?_
 refine AW.seq_k fun K5 hK5=>?_
 refine AW.seq_k fun K hK=>AW.region (by kernel_rfl) ?_
 simp -implicitDefEqProofs only[go_sem,seval,↓reduceIte]
 refine hK _ ?_
 clear hK K
 by_cases hm:m<l.length
 ·have q4:decide (((m:Nat):Int)<((l.length:Nat):Int))=true:=by rw [decide_eq_true_iff];omega
  rw [if_pos hm] at hP2
  rw [q4]
  refine AW.condS (by simp -implicitDefEqProofs only[go_sem,seval,↓reduceIte];rfl) (fun h47=>?_) (fun h47=>?_)
  ·refine AW.seq_k fun K hK=>AW.region (by kernel_rfl) ?_
   simp -implicitDefEqProofs only[go_sem,seval,↓reduceIte]
   refine hK _ ?_
   clear hK K
   refine AW.ret ?_
   simp -implicitDefEqProofs only[go_sem,seval,↓reduceIte]
   refine endK_some ?_
   rw [hP2];rfl
  ·cases h47
 have q4:decide (((m:Nat):Int)<((l.length:Nat):Int))=false:=by rw [decide_eq_false_iff_not];omega
 rw [if_neg hm] at hP2
 rw [q4]
 refine AW.condS (by simp -implicitDefEqProofs only[go_sem,seval,↓reduceIte];rfl) (fun h47=>?_) (fun h47=>?_)
 ·cases h47
 refine AW.skip ?_
 simp -implicitDefEqProofs only[go_sem,seval,↓reduceIte]
 refine hK5 _ ?_
 refine AW.seq_k fun K hK=>AW.region (by kernel_rfl) ?_
 simp -implicitDefEqProofs only[go_sem,seval,↓reduceIte]
 refine hK _ ?_
 clear hK K
 refine AW.ret ?_
 simp -implicitDefEqProofs only[go_sem,seval,↓reduceIte]
 refine endK_some ?_
 rw [hP2];rfl
end Go.Hs
end
