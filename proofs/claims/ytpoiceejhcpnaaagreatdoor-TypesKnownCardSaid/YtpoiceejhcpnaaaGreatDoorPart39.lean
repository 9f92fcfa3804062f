/- Part 39 of the proof of a statement of seat YtpoiceejhcpnaaaGreatDoor: HsExprNm HsExprP HsEExprFr HsEExprPa HsExprSub HsTypLaw HsETypR HsETypK. -/
import Derived.Test.YtpoiceejhcpnaaaGreatDoorPart38
import Derived.Test.YtpoiceejhcpnaaaGreatDoorPart37
import Derived.Test.YtpoiceejhcpnaaaGreatDoorPart36
set_option linter.unusedSimpArgs false
set_option linter.unusedVariables false
section
namespace Go.Hs
def NmQ (Q:List UInt8→Prop) (r:RS):Prop:=∀ n∈r.nodes,Q n.name
def NmI (Q:List UInt8→Prop) (inner:Inner):Prop:=∀ n r,NmQ Q r→NmQ Q (inner n r).2
theorem NmQ.put {Q:List UInt8→Prop} {r:RS} {n:XN} (h:NmQ Q r) (hn:Q n.name):NmQ Q (r.put n):=by
 intro m hm
 rcases List.mem_append.1 hm with h1 | h1
 ·exact h m h1
 ·rw [List.mem_singleton.1 h1];exact hn
theorem andThen_nm {Q:List UInt8→Prop} {x:Bool × RS} {k:RS→Bool × RS} (h:NmQ Q x.2) (hk:∀ r,NmQ Q r→NmQ Q (k r).2):NmQ Q (andThen x k).2:=by
 obtain ⟨b,r⟩:=x
 cases b
 ·exact h
 ·exact hk r h
theorem eatP_nm {Q:List UInt8→Prop} (l:List Tk) (w:List UInt8) {r:RS} (h:NmQ Q r):NmQ Q (eatP l w r).2:=by
 unfold eatP;split<;>exact h
theorem numberP_nm {Q:List UInt8→Prop} (h0:Q []) (t:List UInt8) {r:RS} (h:NmQ Q r):NmQ Q (numberP r t).2:=by
 unfold numberP;split
 ·exact h
 ·exact NmQ.put (n:=⟨1,_,[],-1,-1,-1⟩) h h0
theorem branchesP_nm {Q:List UInt8→Prop} {l:List Tk} {inner:Inner} (h0:Q []) (hi:NmI Q inner) {r:RS} (h:NmQ Q r):NmQ Q (branchesP l inner r).2:=by
 unfold branchesP
 refine andThen_nm (eatP_nm _ _ h) fun r1 h1=>andThen_nm (hi _ _ h1) fun a h2=>andThen_nm (eatP_nm _ _ h2) fun r2 h3=>andThen_nm (hi _ _ h3) fun b h4=>andThen_nm (eatP_nm _ _ h4) fun r3 h5=>andThen_nm (hi _ _ h5) fun c h6=>andThen_nm (eatP_nm _ _ h6) fun r4 h7=>?_
 exact NmQ.put h7 h0
theorem aheadP_nm {Q:List UInt8→Prop} {l:List Tk} {inner:Inner} (h0:Q []) (hq:∀ i,(nextP l i).kind=2→Q (nextP l i).text) (hi:NmI Q inner) {r:RS} (h:NmQ Q r):NmQ Q (aheadP l inner r).2:=by
 unfold aheadP
 split
 ·exact numberP_nm h0 _ h
 split
 ·rename_i hk;exact NmQ.put (n:=⟨2,0,(nextP l r.i).text,-1,-1,-1⟩) h (hq _ hk)
 split
 ·exact h
 split
 ·exact andThen_nm (hi _ _ h) fun a ha=>NmQ.put ha h0
 split
 ·exact andThen_nm (hi _ _ h) fun a ha=>eatP_nm _ _ ha
 split
 ·exact branchesP_nm h0 hi h
 split
 ·exact NmQ.put (n:=⟨_,0,[],-1,-1,-1⟩) h h0
 ·exact h
theorem loopP_nm {Q:List UInt8→Prop} {l:List Tk} {inner:Inner} (h0:Q []) (hi:NmI Q inner) (n:Int):∀ (m:Nat) (r:RS),NmQ Q r→NmQ Q (loopP l inner n m r).2
 | 0,r,h=>h
 | m+1,r,h=>by
  rw [loopP]
  split
  ·exact h
  ·split
   ·exact h
   ·exact andThen_nm (hi _ r.adv h) fun a ha=>loopP_nm h0 hi n m (a.put _) (NmQ.put ha h0)
theorem climbP_nm {Q:List UInt8→Prop} (l:List Tk) (h0:Q []) (hq:∀ i,(nextP l i).kind=2→Q (nextP l i).text):∀ f,NmI Q (climbP l f)
 | 0=>fun _ _ h=>h
 | f+1=>fun n r h=>by
  rw [climbP]
  exact andThen_nm (aheadP_nm h0 hq (climbP_nm l h0 hq f) h) fun a ha=>loopP_nm h0 (climbP_nm l h0 hq f) n _ a ha
end Go.Hs
end

section
namespace Go.Hs
def fromP (l:List Tk):List XN × Int × Int:=if (climbP l (l.length+1) 1 ⟨0,[],0⟩).1=false then ([],(climbP l (l.length+1) 1 ⟨0,[],0⟩).2.i,(climbP l (l.length+1) 1 ⟨0,[],0⟩).2.e)
 else if depthP (climbP l (l.length+1) 1 ⟨0,[],0⟩).2.nodes > 64 then ([],0,3) else ((climbP l (l.length+1) 1 ⟨0,[],0⟩).2.nodes,(climbP l (l.length+1) 1 ⟨0,[],0⟩).2.i,0)
def exprP (s:List UInt8):List XN × Int × Int :=
 if (toksP s).2.2≠0 then ([],(toksP s).2.1,(toksP s).2.2)
 else if (fromP (toksP s).1).2.2=3 then ([],0,3)
 else if (fromP (toksP s).1).2.2=0∧(fromP (toksP s).1).2.1=((toksP s).1.length:Nat) then ((fromP (toksP s).1).1,0,0)
 else ([],if (fromP (toksP s).1).2.1=((toksP s).1.length:Nat) then (s.length:Int) else ((toksP s).1.getD (fromP (toksP s).1).2.1.toNat ⟨0,[],0⟩).pos,if (fromP (toksP s).1).2.2=0 then 80 else (fromP (toksP s).1).2.2)
theorem fromP_bnd {l:List Tk}:0≤(fromP l).2.1∧(fromP l).2.1≤(l.length:Nat):=by
 have hok:=((climbP_bal l (l.length+1) 1 ⟨0,[],0⟩).ok ⟨Nat.zero_le _,Nat.le_refl _⟩).1
 unfold fromP
 split
 ·exact ⟨Int.natCast_nonneg _,Int.ofNat_le.2 hok⟩
 ·split
  ·exact ⟨Int.le_refl _,Int.natCast_nonneg _⟩
  ·exact ⟨Int.natCast_nonneg _,Int.ofNat_le.2 hok⟩
end Go.Hs
end

section
namespace Go.Hs
open Go.Proofs
set_option maxRecDepth 10000
theorem RdS.callN {NO:Nat} {tl:List V} {G:Nat→V} (hG:GOk G) {f:FuncId} {args args':List V} {sl:Sl Tk} {g:Nat} {r r':RS} {v:V} (h:RdS NO tl G f args' sl g r v r') {H:Heap} {K:V→Heap→Prop}
  (hen:enterable Tryz.prog f=true) (htl:∀ F:Col→Col,tl.map (V.recol F)=tl) (hargs:args.map (V.recol Col.ent)=args') (hv:v.recol Col.bk=v) (hr:r.nodes=[])
  (cs:List V) (h8:H 8 = .cells .new g 0 cs) (hcs:V.recolL Col.ent cs=(encSl .any 3 encTk sl :: .int .i64 r.i :: .nils :: .int .i64 r.e::tl)) (hN:H NO = .dead)
  (hk:∀ gx',K v (sets H [(8,.cells .new g 0 (encSl .any 3 encTk sl :: .int .i64 r'.i::grown NO gx' 6 r'.nodes :: .int .i64 r'.e::tl)),(NO,grownO gx' encXN r'.nodes)])) :
  CallA Tryz.prog G f (.ptr 8 g 0::args) H K:=by
 refine CallA.handN hG [(8,rdO NO tl sl g 0 r),(NO,ndO 0 r.nodes)] hen ?_ ?_ ?_
 ·intro p hp
  simp only [List.mem_cons,List.not_mem_nil,or_false] at hp
  rcases hp with rfl | rfl
  ·simp only [h8,AObj.toAny,hcs,rdO_K,hr];rfl
  ·simp only [hN,AObj.toAny,hr];rfl
 ·intro p hp c g' fz cs' ho
  simp only [List.mem_cons,List.not_mem_nil,or_false] at hp
  rcases hp with rfl | rfl
  ·simp only [h8,AObj.cells.injEq] at ho;exact ho.1.symm
  ·simp only [hN] at ho;cases ho
 ·have ha:(V.ptr 8 g 0::args).map (V.recol Col.ent) = .ptr 8 g 0::args':=by rw [List.map_cons,recol_ptr,hargs]
  rw [ha]
  refine (h 0).mono ?_
  rintro _ H' ⟨rfl,gx',q8,qN⟩
  have b8:(rdO NO tl sl g gx' r').backNew = .cells .new g 0 (encSl .any 3 encTk sl :: .int .i64 r'.i::grown NO gx' 6 r'.nodes :: .int .i64 r'.e::tl):=by
   simp only [rdO_K,AObj.backNew,V.recolL_eq,List.map_cons,recol_tks,recol_int,recol_grown,htl]
   rfl
  have bN:(ndO gx' r'.nodes).backNew=grownO gx' encXN r'.nodes:=by
   unfold ndO
   cases hn:r'.nodes with
   | nil=>rfl
   | cons x t =>
    rw [grownC_ne _ _ _ (by simp),grownO_ne _ _ (by simp)]
    simp only [AObj.backNew,V.recolL_eq]
    rw [← flat_recol,List.map_map]
    have he:(x::t).map (V.recol Col.bk ∘ encXN)=(x::t).map encXN:=List.map_congr_left fun y _=>recol_xn _ y
    first | done | rw [he]
  simp only [List.map_cons,List.map_nil,q8,qN,b8,bN,hv]
  exact hk gx'
def encXs (c:Col) (l:List XN):V:=encSl c 6 encXN (grownS l)
def encFr (c:Col) (p:List XN × Int × Int):V := .tuple [.agg [encXs c p.1],.int .i64 p.2.1,.int .i64 p.2.2]
theorem climb_names {l:List Tk} (hT:TkOk l):∀ n∈(climbP l (l.length+1) 1 ⟨0,[],0⟩).2.nodes,n.name.length<100000 :=
 climbP_nm (Q:=fun s=>s.length<100000) l (Nat.zero_lt_succ _) (fun i _=>nextP_len hT i) _ _ _ (fun n hn=>by cases hn)
theorem xFrom_spec (G:Nat→V) (hE:GExp G) (c:Col) (sl:Sl Tk) (hT:TkOk sl.l):Spec Tryz.prog G 33 [encSl c 3 encTk sl] hNone (fun v _=>v=encFr .new (fromP sl.l)):=by
 have hG:=hE.ok
 have hTl:=hT.len
 refine Spec.of_code' 0 44 [.cell 2 24,.tmp 3,.tmp 4] Tryz.func33 rfl rfl rfl rfl fun X=>?_
 have hP:fromP sl.l=if (climbP sl.l (sl.l.length+1) 1 ⟨0,[],0⟩).1=false then (([]:List XN),((climbP sl.l (sl.l.length+1) 1 ⟨0,[],0⟩).2.i:Int),(climbP sl.l (sl.l.length+1) 1 ⟨0,[],0⟩).2.e)
  else if depthP (climbP sl.l (sl.l.length+1) 1 ⟨0,[],0⟩).2.nodes > 64 then ([],0,3) else ((climbP sl.l (sl.l.length+1) 1 ⟨0,[],0⟩).2.nodes,((climbP sl.l (sl.l.length+1) 1 ⟨0,[],0⟩).2.i:Int),(0:Int)):=rfl
 have hr0:RSok sl.l ⟨0,[],0⟩:=⟨Nat.zero_le _,Nat.le_refl _⟩
 have hcl:=fun g=>xClimb_spec G hE sl hT g (sl.l.length+1) 1 ⟨0,[],0⟩ (by decide) (by decide) (Nat.lt_succ_self _) hr0
 have hnm2:=climb_names hT
 have hok:=(climbP_bal sl.l (sl.l.length+1) 1 ⟨0,[],0⟩)
 generalize fromP sl.l=res at hP ⊢
 generalize climbP sl.l (sl.l.length+1) 1 ⟨0,[],0⟩=y at hP hcl hok hnm2
 obtain ⟨b,r⟩:=y
 simp only at hP hcl hok hnm2
 refine AW.seq_k fun K hK=>AW.region (by kernel_rfl) ?_
 simp -implicitDefEqProofs only[go_sem,seval,↓reduceIte]
 intro g2
 refine hK _ ?_
 clear hK K
 refine AW.seq_k fun K hK=>AW.region (by kernel_rfl) ?_
 simp -implicitDefEqProofs only[go_sem,seval,↓reduceIte]
 intro g8
 refine hK _ ?_
 clear hK K
 refine AW.seq_k fun K1 hK1=>?_
 refine AW.block ?_
 refine AW.weak (Weak.stF (fun _=>false) (l:=[(5,.ptr 8 g8 0),(2,.ptr 2 g2 0)]) (m:=[(2,.cells .new g2 0 [.nils]),(8,.cells .new g8 0 [encSl .any 3 encTk sl,.int .i64 0,.nils,.int .i64 0,.func (.func 56) [] []])]) ?_ ?_) ?_
 ·simp -implicitDefEqProofs only[go_sem,seval,↓reduceIte]
  exact ⟨Fz.same _,Fz.same _⟩
 ·simp only [allFzO_cons,allFzO_nil,and_true]
  exact ⟨FzO.keep rfl (by simp -implicitDefEqProofs only[go_sem,seval,↓reduceIte]),FzO.of (c := .new) (fz:=0) (cs:=[encSl c 3 encTk sl,.int .i64 0,.nils,.int .i64 0,.func (.func 56) [] []]) rfl (by simp -implicitDefEqProofs only[go_sem,seval,↓reduceIte];try rfl) ⟨Fz.any (recol_tks _ _ _),Fz.same _,Fz.same _,Fz.same _,Fz.same _,trivial⟩⟩
 refine AW.seq_k fun K hK=>AW.region (by kernel_rfl) ?_
 simp -implicitDefEqProofs only[go_sem,seval,↓reduceIte]
 refine RdS.callN hG (hcl g8) (by kernel_rfl) (fun F=>rfl) rfl rfl rfl _ (by simp -implicitDefEqProofs only[go_sem,seval,↓reduceIte];rfl) (by simp only [V.recolL_eq,List.map_cons,List.map_nil,recol_tks];rfl) (by simp -implicitDefEqProofs only[go_sem,seval,↓reduceIte]) fun gx=>?_
 simp -implicitDefEqProofs only[go_sem,seval,↓reduceIte,sets]
 refine hK _ ?_
 clear hK K
 cases b with
 | false =>
  refine AW.condS (by simp -implicitDefEqProofs only[go_sem,seval,↓reduceIte];rfl) (fun h9=>?_) (fun h9=>?_)
  rotate_left
  ·cases h9
  refine AW.weak (Weak.stF (fun o=>o==8) (l:=[(5,.view .new (.agg [encSl .any 3 encTk sl,.int .i64 r.i,grown 1031 gx 6 r.nodes,.int .i64 r.e,.func (.func 56) [] []])),(2,.ptr 2 g2 0)]) (m:=[(2,.cells .new g2 0 [.nils])]) ?_ ?_) ?_
  ·simp -implicitDefEqProofs only[go_sem,seval,↓reduceIte]
   exact ⟨Fz.ptr (v := .agg [encSl .any 3 encTk sl,.int .i64 r.i,grown 1031 gx 6 r.nodes,.int .i64 r.e,.func (.func 56) [] []]) (c := .new) (fz:=0) rfl (by simp -implicitDefEqProofs only[go_sem,seval,↓reduceIte];try rfl),Fz.same _⟩
  ·simp only [allFzO_cons,allFzO_nil,and_true]
   exact FzO.keep rfl (by simp -implicitDefEqProofs only[go_sem,seval,↓reduceIte])
  refine AW.seq_k fun K2 hK2=>?_
  refine AW.regionT ⟨fun _ => .top,fun i=>if i=4 then .lend else if i=8 then .lend else .pure⟩ (by kernel_rfl) hG (by kernel_rfl) (by kernel_rfl) ?_
  simp -implicitDefEqProofs only[go_sem,seval,↓reduceIte]
  refine hK2 _ ?_
  refine AW.ret ?_
  simp -implicitDefEqProofs only[go_sem,seval,↓reduceIte]
  refine endK_some ?_
  rw [hP];rfl
 | true =>
 refine AW.condS (by simp -implicitDefEqProofs only[go_sem,seval,↓reduceIte];rfl) (fun h9=>?_) (fun h9=>?_)
 ·cases h9
 refine AW.weak (Weak.stF (fun o=>o==1031) (l:=[(5,.ptr 8 g8 0),(2,.ptr 2 g2 0)]) (m:=[(2,.cells .new g2 0 [.nils]),(8,.cells .new g8 0 [encSl .any 3 encTk sl,.int .i64 r.i,encXs .new r.nodes,.int .i64 r.e,.func (.func 56) [] []])]) ?_ ?_) ?_
 ·simp -implicitDefEqProofs only[go_sem,seval,↓reduceIte]
  exact ⟨Fz.same _,Fz.same _⟩
 ·simp only [allFzO_cons,allFzO_nil,and_true]
  exact ⟨FzO.keep rfl (by simp -implicitDefEqProofs only[go_sem,seval,↓reduceIte]),FzO.of (c := .new) (fz:=0) (cs:=[encSl .any 3 encTk sl,.int .i64 r.i,grown 1031 gx 6 r.nodes,.int .i64 r.e,.func (.func 56) [] []]) rfl (by simp -implicitDefEqProofs only[go_sem,seval,↓reduceIte];try rfl) ⟨Fz.same _,Fz.same _,Fz.grown rfl (by simp -implicitDefEqProofs only[go_sem,seval,↓reduceIte];try rfl) encXN_cells,Fz.same _,Fz.same _,trivial⟩⟩
 have hrl:r.nodes.length<1000000:=by have:=(hok.ok hr0);have h1:=this.1;have h2:=this.2;omega
 rw [if_neg (by simp)] at hP
 refine AW.seq_k fun K hK=>AW.region (by kernel_rfl) ?_
 simp -implicitDefEqProofs only[go_sem,seval,↓reduceIte,encXs]
 refine CallA.pure hG (by kernel_rfl) ?_
 simp -implicitDefEqProofs only[go_sem,seval,↓reduceIte,recol_xns]
 refine (xDepth_spec G hE Col.new.ent (grownS r.nodes) (by rw [grownS_l];exact hrl) (by rw [grownS_l];exact hnm2)).mono ?_
 rintro _ _ rfl
 simp -implicitDefEqProofs only[go_sem,seval,↓reduceIte]
 refine hK _ ?_
 clear hK K
 refine AW.condS (by simp -implicitDefEqProofs only[go_sem,seval,↓reduceIte];rfl) (fun h26=>?_) (fun h26=>?_)
 ·have h26:depthP r.nodes > 64:=by simpa using h26
  rw [if_pos h26] at hP
  refine AW.seq_k fun K hK=>AW.region (by kernel_rfl) ?_
  simp -implicitDefEqProofs only[go_sem,seval,↓reduceIte]
  refine hK _ ?_
  clear hK K
  refine AW.ret ?_
  simp -implicitDefEqProofs only[go_sem,seval,↓reduceIte]
  refine endK_some ?_
  rw [hP];rfl
 have h26:¬ depthP r.nodes > 64:=by simpa using h26
 rw [if_neg h26] at hP
 refine AW.skip ?_
 simp -implicitDefEqProofs only[go_sem,seval,↓reduceIte]
 refine hK1 _ ?_
 refine AW.weak (Weak.stF (fun o=>o==8) (l:=[(5,.view .new (.agg [encSl .any 3 encTk sl,.int .i64 r.i,encXs .new r.nodes,.int .i64 r.e,.func (.func 56) [] []])),(2,.ptr 2 g2 0)]) (m:=[(2,.cells .new g2 0 [.nils])]) ?_ ?_) ?_
 ·simp -implicitDefEqProofs only[go_sem,seval,↓reduceIte]
  exact ⟨Fz.ptr (v := .agg [encSl .any 3 encTk sl,.int .i64 r.i,encXs .new r.nodes,.int .i64 r.e,.func (.func 56) [] []]) (c := .new) (fz:=0) rfl (by simp -implicitDefEqProofs only[go_sem,seval,↓reduceIte];try rfl),Fz.same _⟩
 ·simp only [allFzO_cons,allFzO_nil,and_true]
  exact FzO.keep rfl (by simp -implicitDefEqProofs only[go_sem,seval,↓reduceIte])
 refine AW.seq_k fun K2 hK2=>?_
 refine AW.regionT ⟨fun _ => .top,fun i=>if i=3 then .lend else if i=8 then .lend else .pure⟩ (by kernel_rfl) hG (by kernel_rfl) (by kernel_rfl) ?_
 simp -implicitDefEqProofs only[go_sem,seval,↓reduceIte,encXs]
 refine hK2 _ ?_
 refine AW.ret ?_
 simp -implicitDefEqProofs only[go_sem,seval,↓reduceIte]
 refine endK_some ?_
 rw [hP];rfl
end Go.Hs
end

section
namespace Go.Hs
open Go.Proofs
set_option maxRecDepth 10000
theorem toksF_text:∀ (f:Nat) (s:List UInt8) (i:Nat) (acc:List Tk),(∀ t∈acc,t.text.length≤s.length)→∀ t∈(toksF f s i acc).1,t.text.length≤s.length
 | 0,s,i,acc,h=>by rw [toksF];exact h
 | f+1,s,i,acc,h=>by
  rw [toksF]
  split
  ·split
   ·intro t ht;cases ht
   ·refine toksF_text f s _ _ ?_
    intro t ht
    rcases List.mem_append.1 ht with h1 | h1
    ·exact h t h1
    ·rw [List.mem_singleton.1 h1]
     show ((s.drop i).take _).length≤s.length
     rw [List.length_take,List.length_drop];omega
  ·exact h
theorem toks_ok {s:List UInt8} (hs:s.length<100000):TkOk (toksP s).1:=by
 unfold toksP
 split
 ·exact ⟨Nat.zero_lt_succ _,fun t ht=>by cases ht⟩
 refine ⟨?_,?_⟩
 ·have:=toksF_len (s.length+1) s (blk s) []
  have h0:([]:List Tk).length=0:=rfl
  omega
 ·intro t ht
  have:=toksF_text (s.length+1) s (blk s) [] (fun t ht=>by cases ht) t ht
  omega
theorem xParse_spec (G:Nat→V) (hE:GExp G) (s:List UInt8) (hs:s.length<100000):Spec Tryz.prog G 29 [.str s] hNone (fun v _=>v=encFr .new (exprP s)):=by
 have hG:=hE.ok
 refine Spec.of_code' 0 60 [.cell 2 24,.tmp 3,.tmp 4] Tryz.func29 rfl rfl rfl rfl fun X=>?_
 have hP:exprP s=if (toksP s).2.2≠0 then (([]:List XN),(toksP s).2.1,(toksP s).2.2)
  else if (fromP (toksP s).1).2.2=3 then ([],0,3)
  else if (fromP (toksP s).1).2.2=0∧(fromP (toksP s).1).2.1=((toksP s).1.length:Nat) then ((fromP (toksP s).1).1,0,0)
  else ([],if (fromP (toksP s).1).2.1=((toksP s).1.length:Nat) then (s.length:Int) else ((toksP s).1.getD (fromP (toksP s).1).2.1.toNat ⟨0,[],0⟩).pos,if (fromP (toksP s).1).2.2=0 then 80 else (fromP (toksP s).1).2.2):=rfl
 generalize exprP s=res at hP ⊢
 have hT:=toks_ok hs
 have hl:=lTokens_spec G hE s hs
 have hfr:=fun c=>xFrom_spec G hE c (grownS (toksP s).1) (by rw [grownS_l];exact hT)
 simp only [grownS_l] at hfr
 have hb:=fromP_bnd (l:=(toksP s).1)
 generalize toksP s=t at hP hT hl hfr hb
 generalize fromP t.1=p at hP hfr hb
 obtain ⟨l,at0,e0⟩:=t
 obtain ⟨ns,i,e⟩:=p
 simp only at hP hT hfr hb
 refine AW.seq_k fun K hK=>AW.region (by kernel_rfl) ?_
 simp -implicitDefEqProofs only[go_sem,seval,↓reduceIte]
 intro g2
 refine hK _ ?_
 clear hK K
 refine AW.seq_k fun K hK=>AW.region (by kernel_rfl) ?_
 simp -implicitDefEqProofs only[go_sem,seval,↓reduceIte]
 refine CallA.pure hG (by kernel_rfl) ?_
 simp -implicitDefEqProofs only[go_sem,seval,↓reduceIte]
 refine hl.mono ?_
 rintro _ _ rfl
 simp -implicitDefEqProofs only[go_sem,seval,↓reduceIte,encTok,encTks,recol_tks]
 refine hK _ ?_
 clear hK K
 refine AW.seq_k fun K1 hK1=>?_
 refine AW.seq_k fun K hK=>AW.region (by kernel_rfl) ?_
 simp -implicitDefEqProofs only[go_sem,seval,↓reduceIte]
 refine hK _ ?_
 clear hK K
 by_cases he0:e0=0
 rotate_left
 ·have q1:(e0 != 0)=true:=by simpa using he0
  rw [if_pos he0] at hP
  refine AW.condS (by simp -implicitDefEqProofs only[go_sem,seval,↓reduceIte];rfl) (fun h17=>?_) (fun h17=>?_)
  ·refine AW.seq_k fun K hK=>AW.region (by kernel_rfl) ?_
   simp -implicitDefEqProofs only[go_sem,seval,↓reduceIte]
   refine hK _ ?_
   clear hK K
   refine AW.ret ?_
   simp -implicitDefEqProofs only[go_sem,seval,↓reduceIte]
   refine endK_some ?_
   rw [hP];rfl
  ·rw [q1] at h17;cases h17
 have q1:(e0 != 0)=false:=by simpa using he0
 rw [if_neg (by simpa using he0)] at hP
 refine AW.condS (by simp -implicitDefEqProofs only[go_sem,seval,↓reduceIte];rfl) (fun h17=>?_) (fun h17=>?_)
 ·rw [q1] at h17;cases h17
 refine AW.skip ?_
 simp -implicitDefEqProofs only[go_sem,seval,↓reduceIte]
 refine hK1 _ ?_
 refine AW.seq_k fun K hK=>AW.region (by kernel_rfl) ?_
 simp -implicitDefEqProofs only[go_sem,seval,↓reduceIte]
 refine CallA.pure hG (by kernel_rfl) ?_
 simp -implicitDefEqProofs only[go_sem,seval,↓reduceIte,recol_tks]
 refine (hfr _).mono ?_
 rintro _ _ rfl
 simp -implicitDefEqProofs only[go_sem,seval,↓reduceIte,encFr,encXs,recol_xns]
 intro g8
 refine hK _ ?_
 clear hK K
 refine AW.seq_k fun K2 hK2=>?_
 refine AW.block ?_
 refine AW.seq_k fun K hK=>AW.region (by kernel_rfl) ?_
 simp -implicitDefEqProofs only[go_sem,seval,↓reduceIte]
 refine hK _ ?_
 clear hK K
 by_cases he3:e=3
 ·have q3:(e==3)=true:=by simpa using he3
  rw [if_pos he3] at hP
  refine AW.condS (by simp -implicitDefEqProofs only[go_sem,seval,↓reduceIte];rfl) (fun h27=>?_) (fun h27=>?_)
  ·refine AW.seq_k fun K hK=>AW.region (by kernel_rfl) ?_
   simp -implicitDefEqProofs only[go_sem,seval,↓reduceIte]
   refine hK _ ?_
   clear hK K
   refine AW.ret ?_
   simp -implicitDefEqProofs only[go_sem,seval,↓reduceIte]
   refine endK_some ?_
   rw [hP,he3];rfl
  ·rw [q3] at h27;cases h27
 have q3:(e==3)=false:=by simpa using he3
 rw [if_neg he3] at hP
 refine AW.condS (by simp -implicitDefEqProofs only[go_sem,seval,↓reduceIte];rfl) (fun h27=>?_) (fun h27=>?_)
 ·rw [q3] at h27;cases h27
 by_cases he:e=0
 ·have q4:(e==0)=true:=by simpa using he
  by_cases hi:i=(l.length:Nat)
  ·have q5:(i==((l.length:Nat):Int))=true:=by simpa using hi
   rw [if_pos ⟨he,hi⟩] at hP
   refine AW.seq_k fun K hK=>AW.region (by kernel_rfl) ?_
   simp -implicitDefEqProofs only[go_sem,seval,↓reduceIte,q4,q5]
   refine hK _ ?_
   clear hK K
   refine AW.condS (by simp -implicitDefEqProofs only[go_sem,seval,↓reduceIte];rfl) (fun h32=>?_) (fun h32=>?_)
   ·refine AW.seq_k fun K hK=>AW.region (by kernel_rfl) ?_
    simp -implicitDefEqProofs only[go_sem,seval,↓reduceIte]
    refine hK _ ?_
    clear hK K
    refine AW.ret ?_
    simp -implicitDefEqProofs only[go_sem,seval,↓reduceIte]
    refine endK_some ?_
    rw [hP];rfl
   ·cases h32
  have q5:(i==((l.length:Nat):Int))=false:=by simpa using hi
  rw [if_neg (fun h=>hi h.2),if_neg hi,if_pos he] at hP
  obtain ⟨m,rfl⟩:∃ m:Nat,i=m:=⟨i.toNat,by omega⟩
  have hml:m<l.length:=by omega
  obtain ⟨tk,htk⟩:∃ tk,l[m]? = some tk:=⟨_,List.getElem?_eq_getElem hml⟩
  have hgd:(l.getD ((m:Nat):Int).toNat ⟨0,[],0⟩)=tk:=by rw [Int.toNat_natCast,List.getD_eq_getElem?_getD,htk];rfl
  rw [hgd] at hP
  refine AW.seq_k fun K hK=>AW.region (by kernel_rfl) ?_
  simp -implicitDefEqProofs only[go_sem,seval,↓reduceIte,q4,q5]
  refine hK _ ?_
  clear hK K
  refine AW.condS (by simp -implicitDefEqProofs only[go_sem,seval,↓reduceIte];rfl) (fun h32=>?_) (fun h32=>?_)
  ·cases h32
  refine AW.seq_k fun K hK=>AW.region (by kernel_rfl) ?_
  simp -implicitDefEqProofs only[go_sem,seval,↓reduceIte,q4]
  refine hK _ ?_
  clear hK K
  refine AW.condS (by simp -implicitDefEqProofs only[go_sem,seval,↓reduceIte];rfl) (fun h42=>?_) (fun h42=>?_)
  rotate_left
  ·cases h42
  refine AW.region (by kernel_rfl) ?_
  simp -implicitDefEqProofs only[go_sem,seval,↓reduceIte]
  refine hK2 _ ?_
  refine AW.seq_k fun K3 hK3=>?_
  refine AW.seq_k fun K hK=>AW.region (by kernel_rfl) ?_
  simp -implicitDefEqProofs only[go_sem,seval,↓reduceIte,q5]
  refine hK _ ?_
  clear hK K
  refine AW.condS (by simp -implicitDefEqProofs only[go_sem,seval,↓reduceIte];rfl) (fun h48=>?_) (fun h48=>?_)
  ·cases h48
  refine AW.skip ?_
  simp -implicitDefEqProofs only[go_sem,seval,↓reduceIte]
  refine hK3 _ ?_
  refine AW.seq_k fun K4 hK4=>?_
  refine AW.regionT ⟨fun _ => .top,fun i=>if i=5 then .lend else .pure⟩ (by kernel_rfl) hG (by kernel_rfl) (by kernel_rfl) ?_
  simp -implicitDefEqProofs only[go_sem,seval,↓reduceIte,htk,encTk_K]
  refine hK4 _ ?_
  refine AW.ret ?_
  simp -implicitDefEqProofs only[go_sem,seval,↓reduceIte]
  refine endK_some ?_
  rw [hP];rfl
 have q4:(e==0)=false:=by simpa using he
 rw [if_neg (fun h=>he h.1),if_neg he] at hP
 refine AW.seq_k fun K hK=>AW.region (by kernel_rfl) ?_
 simp -implicitDefEqProofs only[go_sem,seval,↓reduceIte,q4]
 refine hK _ ?_
 clear hK K
 refine AW.condS (by simp -implicitDefEqProofs only[go_sem,seval,↓reduceIte];rfl) (fun h32=>?_) (fun h32=>?_)
 ·cases h32
 refine AW.seq_k fun K hK=>AW.region (by kernel_rfl) ?_
 simp -implicitDefEqProofs only[go_sem,seval,↓reduceIte,q4]
 refine hK _ ?_
 clear hK K
 refine AW.condS (by simp -implicitDefEqProofs only[go_sem,seval,↓reduceIte];rfl) (fun h42=>?_) (fun h42=>?_)
 ·cases h42
 refine AW.skip ?_
 simp -implicitDefEqProofs only[go_sem,seval,↓reduceIte]
 refine hK2 _ ?_
 refine AW.seq_k fun K3 hK3=>?_
 by_cases hi:i=(l.length:Nat)
 ·have q5:(i==((l.length:Nat):Int))=true:=by simpa using hi
  rw [if_pos hi] at hP
  refine AW.seq_k fun K hK=>AW.region (by kernel_rfl) ?_
  simp -implicitDefEqProofs only[go_sem,seval,↓reduceIte,q5]
  refine hK _ ?_
  clear hK K
  refine AW.condS (by simp -implicitDefEqProofs only[go_sem,seval,↓reduceIte];rfl) (fun h48=>?_) (fun h48=>?_)
  ·refine AW.seq_k fun K hK=>AW.region (by kernel_rfl) ?_
   simp -implicitDefEqProofs only[go_sem,seval,↓reduceIte]
   refine hK _ ?_
   clear hK K
   refine AW.ret ?_
   simp -implicitDefEqProofs only[go_sem,seval,↓reduceIte]
   refine endK_some ?_
   rw [hP];rfl
  ·cases h48
 have q5:(i==((l.length:Nat):Int))=false:=by simpa using hi
 rw [if_neg hi] at hP
 obtain ⟨m,rfl⟩:∃ m:Nat,i=m:=⟨i.toNat,by omega⟩
 have hml:m<l.length:=by omega
 obtain ⟨tk,htk⟩:∃ tk,l[m]? = some tk:=⟨_,List.getElem?_eq_getElem hml⟩
 have hgd:(l.getD ((m:Nat):Int).toNat ⟨0,[],0⟩)=tk:=by rw [Int.toNat_natCast,List.getD_eq_getElem?_getD,htk];rfl
 rw [hgd] at hP
 refine AW.seq_k fun K hK=>AW.region (by kernel_rfl) ?_
 simp -implicitDefEqProofs only[go_sem,seval,↓reduceIte,q5]
 refine hK _ ?_
 clear hK K
 refine AW.condS (by simp -implicitDefEqProofs only[go_sem,seval,↓reduceIte];rfl) (fun h48=>?_) (fun h48=>?_)
 ·cases h48
 refine AW.skip ?_
 simp -implicitDefEqProofs only[go_sem,seval,↓reduceIte]
 refine hK3 _ ?_
 refine AW.seq_k fun K4 hK4=>?_
 refine AW.regionT ⟨fun _ => .top,fun i=>if i=5 then .lend else .pure⟩ (by kernel_rfl) hG (by kernel_rfl) (by kernel_rfl) ?_
 simp -implicitDefEqProofs only[go_sem,seval,↓reduceIte,htk,encTk_K]
 refine hK4 _ ?_
 refine AW.ret ?_
 simp -implicitDefEqProofs only[go_sem,seval,↓reduceIte]
 refine endK_some ?_
 rw [hP];rfl
end Go.Hs
end

section
namespace Go.Hs
inductive Sub:X→X→Nat→Prop where
 | refl (x:X):Sub x x 0
 | un {op:Int} {a y:X} {b:Nat}:Sub a y b→Sub (.un op a) y b
 | bin1 {op:Int} {a c y:X} {b:Nat}:Sub a y b→Sub (.bin op a c) y b
 | bin2 {op:Int} {a c y:X} {b:Nat}:Sub c y b→Sub (.bin op a c) y (a.size+b)
 | ite1 {a c d y:X} {b:Nat}:Sub a y b→Sub (.ite a c d) y b
 | ite2 {a c d y:X} {b:Nat}:Sub c y b→Sub (.ite a c d) y (a.size+b)
 | ite3 {a c d y:X} {b:Nat}:Sub d y b→Sub (.ite a c d) y (a.size+c.size+b)
def subs:X→List X
 | .leaf op num name=>[.leaf op num name]
 | .un op a=>subs a++[.un op a]
 | .bin op a c=>subs a++subs c++[.bin op a c]
 | .ite a c d=>subs a++subs c++subs d++[.ite a c d]
theorem subs_len:∀ x:X,(subs x).length=x.size
 | .leaf .. => rfl
 | .un _ a=>by simp [subs,X.size,subs_len a]
 | .bin _ a b=>by simp [subs,X.size,subs_len a,subs_len b];omega
 | .ite a b c=>by simp [subs,X.size,subs_len a,subs_len b,subs_len c];omega
theorem Sub.trans {x y z:X} {b c:Nat} (h:Sub x y b) (h2:Sub y z c):Sub x z (b+c):=by
 induction h with
 | refl=>simpa using h2
 | un _ ih=>exact .un (ih h2)
 | bin1 _ ih=>exact .bin1 (ih h2)
 | bin2 _ ih=>rw [Nat.add_assoc];exact .bin2 (ih h2)
 | ite1 _ ih=>exact .ite1 (ih h2)
 | ite2 _ ih=>rw [Nat.add_assoc];exact .ite2 (ih h2)
 | ite3 _ ih=>rw [Nat.add_assoc];exact .ite3 (ih h2)
theorem Sub.ok {x y:X} {b:Nat} (h:Sub x y b):x.ok=true→y.ok=true:=by
 induction h with
 | refl=>exact id
 | un _ ih=>intro h;simp [X.ok] at h;exact ih h.2
 | bin1 _ ih=>intro h;simp [X.ok] at h;exact ih h.1.2
 | bin2 _ ih=>intro h;simp [X.ok] at h;exact ih h.2
 | ite1 _ ih=>intro h;simp [X.ok] at h;exact ih h.1.1
 | ite2 _ ih=>intro h;simp [X.ok] at h;exact ih h.1.2
 | ite3 _ ih=>intro h;simp [X.ok] at h;exact ih h.2
theorem Sub.size {x y:X} {b:Nat} (h:Sub x y b):b+y.size≤x.size:=by
 induction h with
 | refl=>simp
 | un _ ih=>simp only [X.size];omega
 | bin1 _ ih=>simp only [X.size];omega
 | bin2 _ ih=>simp only [X.size];omega
 | ite1 _ ih=>simp only [X.size];omega
 | ite2 _ ih=>simp only [X.size];omega
 | ite3 _ ih=>simp only [X.size];omega
theorem Sub.depth {x y:X} {b:Nat} (h:Sub x y b):y.depth≤x.depth:=by
 induction h with
 | refl=>simp
 | un _ ih=>simp only [X.depth];omega
 | bin1 _ ih=>simp only [X.depth];omega
 | bin2 _ ih=>simp only [X.depth];omega
 | ite1 _ ih=>simp only [X.depth];omega
 | ite2 _ ih=>simp only [X.depth];omega
 | ite3 _ ih=>simp only [X.depth];omega
theorem Sub.at {x y:X} {b:Nat} (h:Sub x y b):∀ {l:List XN} {k:Nat},At l x k→At l y (k+b):=by
 induction h with
 | refl=>exact id
 | un _ ih=>intro l k h;exact ih h.un
 | bin1 _ ih=>intro l k h;exact ih h.bin.1
 | bin2 _ ih=>intro l k h;rw [← Nat.add_assoc];exact ih h.bin.2
 | ite1 _ ih=>intro l k h;exact ih h.ite.1
 | ite2 _ ih=>intro l k h;rw [← Nat.add_assoc];exact ih h.ite.2.1
 | ite3 _ ih=>intro l k h;rw [← Nat.add_assoc,← Nat.add_assoc];exact ih h.ite.2.2
theorem subs_top (x:X):(subs x)[x.size-1]? = some x:=by
 have:∃ l,subs x=l++[x]:=by
  cases x with
  | leaf=>exact ⟨[],rfl⟩
  | un=>exact ⟨_,rfl⟩
  | bin=>exact ⟨_,rfl⟩
  | ite=>exact ⟨_,rfl⟩
 obtain ⟨l,h⟩:=this
 have hl:=subs_len x
 rw [h,List.length_append,List.length_singleton] at hl
 rw [h,List.getElem?_append_right (by omega),show x.size-1-l.length=0 by omega];rfl
theorem Sub.get {x y:X} {b:Nat} (h:Sub x y b):(subs x)[b+y.size-1]? = some y:=by
 have hy:=y.size_pos
 induction h with
 | refl x=>rw [Nat.zero_add];exact subs_top x
 | @un op a y b h ih =>
  have:=h.size
  have hl:=subs_len a
  rw [subs,List.getElem?_append_left (by omega)];exact ih hy
 | @bin1 op a c y b h ih =>
  have:=h.size
  have hl:=subs_len a
  rw [subs,List.append_assoc,List.getElem?_append_left (by omega)];exact ih hy
 | @bin2 op a c y b h ih =>
  have:=h.size
  have hl:=subs_len a
  have hl2:=subs_len c
  rw [subs,List.append_assoc,List.getElem?_append_right (by omega),List.getElem?_append_left (by omega),← ih hy]
  congr 1;omega
 | @ite1 a c d y b h ih =>
  have:=h.size
  have hl:=subs_len a
  rw [subs,List.append_assoc,List.append_assoc,List.getElem?_append_left (by omega)];exact ih hy
 | @ite2 a c d y b h ih =>
  have:=h.size
  have hl:=subs_len a
  have hl2:=subs_len c
  rw [subs,List.append_assoc,List.append_assoc,List.getElem?_append_right (by omega),List.getElem?_append_left (by omega),← ih hy]
  congr 1;omega
 | @ite3 a c d y b h ih =>
  have:=h.size
  have hl:=subs_len a
  have hl2:=subs_len c
  have hl3:=subs_len d
  rw [subs,List.append_assoc,List.append_assoc,List.getElem?_append_right (by omega),List.getElem?_append_right (by omega),List.getElem?_append_left (by omega),← ih hy]
  congr 1;omega
theorem sub_all:∀ (x:X) (i:Nat),i<x.size→∃ y b,Sub x y b∧b+y.size=i+1
 | .leaf op num name,i,h=>⟨_,0,.refl _,by simp only [X.size] at h ⊢;omega⟩
 | .un op a,i,h=>by
  by_cases h1:i<a.size
  ·obtain ⟨y,b,h2,h3⟩:=sub_all a i h1
   exact ⟨y,b,.un h2,h3⟩
  ·exact ⟨_,0,.refl _,by simp only [X.size] at h ⊢;omega⟩
 | .bin op a c,i,h=>by
  by_cases h1:i<a.size
  ·obtain ⟨y,b,h2,h3⟩:=sub_all a i h1
   exact ⟨y,b,.bin1 h2,h3⟩
  by_cases h1':i-a.size<c.size
  ·obtain ⟨y,b,h2,h3⟩:=sub_all c (i-a.size) h1'
   exact ⟨y,_,.bin2 h2,by omega⟩
  ·exact ⟨_,0,.refl _,by simp only [X.size] at h ⊢;omega⟩
 | .ite a c d,i,h=>by
  by_cases h1:i<a.size
  ·obtain ⟨y,b,h2,h3⟩:=sub_all a i h1
   exact ⟨y,b,.ite1 h2,h3⟩
  by_cases h1':i-a.size<c.size
  ·obtain ⟨y,b,h2,h3⟩:=sub_all c (i-a.size) h1'
   exact ⟨y,_,.ite2 h2,by omega⟩
  by_cases h1'':i-a.size-c.size<d.size
  ·obtain ⟨y,b,h2,h3⟩:=sub_all d (i-a.size-c.size) h1''
   exact ⟨y,_,.ite3 h2,by omega⟩
  ·exact ⟨_,0,.refl _,by simp only [X.size] at h ⊢;omega⟩
theorem Sub.top {x y:X} {b:Nat} (h:Sub x y b):(x.row 0)[b+y.size-1]? = some (y.top b):=by
 have:=(h.at (At.whole x)).get
 rw [Nat.zero_add] at this
 exact this
theorem sub_at (x:X) (i:Nat) (h:i<x.size):∃ y b,Sub x y b∧b+y.size=i+1∧(subs x)[i]? = some y∧(x.row 0)[i]? = some (y.top b):=by
 obtain ⟨y,b,h1,h2⟩:=sub_all x i h
 have e:i=b+y.size-1:=by omega
 exact ⟨y,b,h1,h2,e ▸ h1.get,e ▸ h1.top⟩
end Go.Hs
end

section
namespace Go.Hs
def kd (op:Int) (named:Bool) (a b c:Int):Int :=
 if op=1∨op=2∧named=true then 1
 else if op=3∨op=4 then 2
 else if op=5∧a=1∨7≤op∧op≤11∧a=1∧b=1 then 1
 else if 12≤op∧op≤15∧a=1∧b=1∨(op=16∨op=17)∧a=b∧a≠0 then 2
 else if op=6∧a=2∨18≤op∧op≤21∧a=2∧b=2 then 2
 else if op=22∧a=2∧b=c then b else 0
theorem kd_range {op:Int} {nm:Bool} {a b c:Int} (hb:0≤b∧b≤2):0≤kd op nm a b c∧kd op nm a b c≤2:=by
 unfold kd
 repeat' split
 all_goals omega
def kindX (names:List (List UInt8)):X→Int
 | .leaf op _ name=>kd op (names.contains name) 0 0 0
 | .un op a=>kd op (names.contains []) (kindX names a) 0 0
 | .bin op a b=>kd op (names.contains []) (kindX names a) (kindX names b) 0
 | .ite a b c=>kd 22 (names.contains []) (kindX names a) (kindX names b) (kindX names c)
theorem kindX_range (names:List (List UInt8)):∀ x,0≤kindX names x∧kindX names x≤2
 | .leaf .. => kd_range (by decide)
 | .un .. => kd_range (by decide)
 | .bin _ a b=>kd_range (kindX_range names b)
 | .ite a b c=>kd_range (kindX_range names b)
def goX (names:List (List UInt8)):List X→Int→List Int→List Int × Int × Int
 | [],_,acc=>(acc,0,0)
 | y::r,i,acc=>if kindX names y=0 then ([],i,90) else goX names r (i+1) (acc++[kindX names y])
def plc (ks:List Int) (i:Int):Int:=if i<0 then 0 else ks.getD i.toNat 0
def kindN (names:List (List UInt8)) (n:XN) (ks:List Int):Int:=kd n.op (names.contains n.name) (plc ks n.a) (plc ks n.b) (plc ks n.c)
def goN (names:List (List UInt8)):List XN→Int→List Int→List Int × Int × Int
 | [],_,acc=>(acc,0,0)
 | n::r,i,acc=>if kindN names n acc=0 then ([],i,90) else goN names r (i+1) (acc++[kindN names n acc])
theorem plc_neg (ks:List Int):plc ks (-1)=0:=rfl
theorem plc_sub {names:List (List UInt8)} {x y:X} {b i:Nat} (h:Sub x y b) (hi:b+y.size≤i):plc (((subs x).take i).map (kindX names)) ((b:Int)+y.size-1)=kindX names y:=by
 have hp:=y.size_pos
 unfold plc
 rw [if_neg (by omega),show ((b:Int)+y.size-1).toNat=b+y.size-1 by omega]
 rw [List.getD_eq_getElem?_getD,List.getElem?_map,List.getElem?_take,if_pos (by omega),h.get];rfl
theorem kindN_sub {names:List (List UInt8)} {x y:X} {b i:Nat} (h:Sub x y b) (hi:b+y.size=i+1):kindN names (y.top b) (((subs x).take i).map (kindX names))=kindX names y:=by
 cases y with
 | leaf op num name=>rfl
 | un op a =>
  have h1:Sub x a b:=h.trans (.un (.refl a))
  simp only [X.size] at hi
  simp only [kindN,X.top,plc_neg,kindX]
  rw [plc_sub h1 (by omega)]
 | bin op a c =>
  have h1:Sub x a b:=h.trans (.bin1 (.refl a))
  have h2:Sub x c (b+(a.size+0)):=h.trans (.bin2 (.refl c))
  rw [Nat.add_zero] at h2
  simp only [X.size] at hi
  simp only [kindN,X.top,plc_neg,kindX]
  have:=plc_sub (names:=names) h2 (i:=i) (by omega)
  rw [show ((b+a.size:Nat):Int)+c.size-1=(b:Int)+a.size+c.size-1 by omega] at this
  rw [plc_sub h1 (by omega),this]
 | ite a c d =>
  have h1:Sub x a b:=h.trans (.ite1 (.refl a))
  have h2:Sub x c (b+(a.size+0)):=h.trans (.ite2 (.refl c))
  have h3:Sub x d (b+(a.size+c.size+0)):=h.trans (.ite3 (.refl d))
  rw [Nat.add_zero] at h2 h3
  simp only [X.size] at hi
  simp only [kindN,X.top,plc_neg,kindX]
  have q2:=plc_sub (names:=names) h2 (i:=i) (by omega)
  rw [show ((b+a.size:Nat):Int)+c.size-1=(b:Int)+a.size+c.size-1 by omega] at q2
  have q3:=plc_sub (names:=names) h3 (i:=i) (by omega)
  rw [show ((b+(a.size+c.size):Nat):Int)+d.size-1=(b:Int)+a.size+c.size+d.size-1 by omega] at q3
  rw [plc_sub h1 (by omega),q2,q3]
theorem goN_goX {names:List (List UInt8)} (x:X):∀ (m i:Nat),i+m=x.size→goN names ((x.row 0).drop i) i (((subs x).take i).map (kindX names))=goX names ((subs x).drop i) i (((subs x).take i).map (kindX names))
 | 0,i,h=>by
  rw [List.drop_of_length_le (by rw [X.row_len];omega),List.drop_of_length_le (by rw [subs_len];omega)];rfl
 | m+1,i,h=>by
  obtain ⟨y,b,h1,h2,h3,h4⟩:=sub_at x i (by omega)
  obtain ⟨q1,e1⟩:=List.getElem?_eq_some_iff.1 h3
  obtain ⟨q2,e2⟩:=List.getElem?_eq_some_iff.1 h4
  rw [List.drop_eq_getElem_cons q2,List.drop_eq_getElem_cons q1,e1,e2,goN,goX,kindN_sub h1 h2]
  have ih:=goN_goX (names:=names) x m (i+1) (by omega)
  have ht:((subs x).take (i+1)).map (kindX names)=((subs x).take i).map (kindX names)++[kindX names y]:=by
   rw [List.take_add_one,h3];simp
  rw [ht] at ih
  split
  ·rfl
  ·exact ih
def PlOk (k:Nat) (n:XN):Prop:=wellP n=true∧(0<partsOf n.op→0≤n.a∧n.a<k)∧(1<partsOf n.op→0≤n.b∧n.b<k)∧(2<partsOf n.op→0≤n.c∧n.c<k) ∧
 (¬ 0<partsOf n.op→n.a = -1)∧(¬ 1<partsOf n.op→n.b = -1)∧(¬ 2<partsOf n.op→n.c = -1)
theorem plOk_sub {x y:X} {b i:Nat} (hx:x.ok=true) (h:Sub x y b) (hi:b+y.size=i+1):PlOk i (y.top b):=by
 have hy:=h.ok hx
 cases y with
 | leaf op num name =>
  simp only [X.ok,Bool.and_eq_true,decide_eq_true_eq] at hy
  have hp:partsOf op=0:=by unfold partsOf;rw [if_pos hy.2]
  refine ⟨hy.1,?_⟩
  simp only [X.top,hp]
  exact ⟨fun h=>absurd h (by decide),fun h=>absurd h (by decide),fun h=>absurd h (by decide),fun _=>trivial,fun _=>trivial,fun _=>trivial⟩
 | un op a =>
  simp only [X.ok,Bool.and_eq_true,decide_eq_true_eq] at hy
  have hp:partsOf op=1:=by unfold partsOf;rw [if_neg (by omega),if_pos (by omega)]
  have hs:=a.size_pos
  simp only [X.size] at hi
  refine ⟨well_op (by omega) _ _ _,?_⟩
  simp only [X.top,hp]
  exact ⟨fun _=>by omega,fun h=>absurd h (by decide),fun h=>absurd h (by decide),fun h=>absurd (by decide) h,fun _=>trivial,fun _=>trivial⟩
 | bin op a c =>
  simp only [X.ok,Bool.and_eq_true,decide_eq_true_eq] at hy
  have hp:partsOf op=2:=by unfold partsOf;rw [if_neg (by omega),if_neg (by omega),if_pos (by omega)]
  have hs:=a.size_pos
  have hs2:=c.size_pos
  simp only [X.size] at hi
  refine ⟨well_op (by omega) _ _ _,?_⟩
  simp only [X.top,hp]
  exact ⟨fun _=>by omega,fun _=>by omega,fun h=>absurd h (by decide),fun h=>absurd (by decide) h,fun h=>absurd (by decide) h,fun _=>trivial⟩
 | ite a c d =>
  have hp:partsOf 22=3:=by decide
  have hs:=a.size_pos
  have hs2:=c.size_pos
  have hs3:=d.size_pos
  simp only [X.size] at hi
  refine ⟨well_op (by decide) _ _ _,?_⟩
  simp only [X.top,hp]
  exact ⟨fun _=>by omega,fun _=>by omega,fun _=>by omega,fun h=>absurd (by decide) h,fun h=>absurd (by decide) h,fun h=>absurd (by decide) h⟩
theorem plOk_get {l:List XN} (h:depthP l≠0) {i:Nat} {n:XN} (hg:l[i]? = some n):PlOk i n:=by
 obtain ⟨x,hx,rfl⟩:=depth_none h
 have hi:i<x.size:=by rw [← X.row_len x 0];exact (List.getElem?_eq_some_iff.1 hg).1
 obtain ⟨y,b,h1,h2,h3,h4⟩:=sub_at x i hi
 rw [h4] at hg
 cases hg
 exact plOk_sub hx h1 h2
end Go.Hs
end

section
namespace Go.Hs
open Go.Proofs
set_option maxRecDepth 10000
def ruleC:List V := .int .u8 0 :: .int .u8 0 :: .int .u8 0 :: .int .u8 0 :: .int .u8 0 :: .int .u8 0 :: .int .u8 0 :: .int .u8 1 :: .int .u8 0 :: .int .u8 0 :: .int .u8 0 :: .int .u8 1 :: .int .u8 0 :: .int .u8 0 :: .int .u8 0 :: .int .u8 2 :: .int .u8 0 :: .int .u8 0 :: .int .u8 0 :: .int .u8 2 :: .int .u8 1 :: .int .u8 0 :: .int .u8 0 :: .int .u8 1 :: .int .u8 2 :: .int .u8 0 :: .int .u8 0 :: .int .u8 2 :: .int .u8 1 :: .int .u8 1 :: .int .u8 0 :: .int .u8 1 :: .int .u8 1 :: .int .u8 1 :: .int .u8 0 :: .int .u8 1 :: .int .u8 1 :: .int .u8 1 :: .int .u8 0 :: .int .u8 1 :: .int .u8 1 :: .int .u8 1 :: .int .u8 0 :: .int .u8 1 :: .int .u8 1 :: .int .u8 1 :: .int .u8 0 :: .int .u8 1 :: .int .u8 1 :: .int .u8 1 :: .int .u8 0 :: .int .u8 2 :: .int .u8 1 :: .int .u8 1 :: .int .u8 0 :: .int .u8 2 :: .int .u8 1 :: .int .u8 1 :: .int .u8 0 :: .int .u8 2 :: .int .u8 1 :: .int .u8 1 :: .int .u8 0 :: .int .u8 2 :: .int .u8 3 :: .int .u8 3 :: .int .u8 0 :: .int .u8 2 :: .int .u8 3 :: .int .u8 3 :: .int .u8 0 :: .int .u8 2 :: .int .u8 2 :: .int .u8 2 :: .int .u8 0 :: .int .u8 2 :: .int .u8 2 :: .int .u8 2 :: .int .u8 0 :: .int .u8 2 :: .int .u8 2 :: .int .u8 2 :: .int .u8 0 :: .int .u8 2 :: .int .u8 2 :: .int .u8 2 :: .int .u8 0 :: .int .u8 2 :: .int .u8 2 :: .int .u8 3 :: .int .u8 3 :: .int .u8 3::[]
def ruleA (op:Nat):Int:=if op≤4 then 0 else if op=5∨(7≤op∧op≤15) then 1 else if op=16∨op=17 then 3 else 2
def ruleB (op:Nat):Int:=if op≤6 then 0 else if op≤15 then 1 else if op≤17∨op=22 then 3 else 2
def ruleD (op:Nat):Int:=if op=22 then 3 else 0
def ruleI (op:Nat):Int:=if op=0 then 0 else if op≤2 then 1 else if op=22 then 3 else if op=5∨(7≤op∧op≤11) then 1 else 2
theorem ruleC_get (op:Nat) (h:op<23):(ruleC.drop (op * 4)).take 4=[.int .u8 (ruleA op),.int .u8 (ruleB op),.int .u8 (ruleD op),.int .u8 (ruleI op)]:=by
 match op,h with
 | 0,_=>rfl
 | 1,_=>rfl
 | 2,_=>rfl
 | 3,_=>rfl
 | 4,_=>rfl
 | 5,_=>rfl
 | 6,_=>rfl
 | 7,_=>rfl
 | 8,_=>rfl
 | 9,_=>rfl
 | 10,_=>rfl
 | 11,_=>rfl
 | 12,_=>rfl
 | 13,_=>rfl
 | 14,_=>rfl
 | 15,_=>rfl
 | 16,_=>rfl
 | 17,_=>rfl
 | 18,_=>rfl
 | 19,_=>rfl
 | 20,_=>rfl
 | 21,_=>rfl
 | 22,_=>rfl
 | n+23,h=>omega
theorem tRules_spec (G:Nat→V) (hG:GOk G):Spec Tryz.prog G 50 [] hNone (fun v _=>v = .agg ruleC):=by
 refine Spec.of_code' 0 39 [.cell 0 85] Tryz.func50 rfl rfl rfl rfl fun X=>?_
 refine AW.seq_k fun K hK=>AW.region (by kernel_rfl) ?_
 simp -implicitDefEqProofs only[go_sem,seval,↓reduceIte]
 intro g0
 refine hK _ ?_
 clear hK K
 refine AW.seq_k fun K hK=>AW.region (by kernel_rfl) ?_
 simp -implicitDefEqProofs only[go_sem,seval,↓reduceIte]
 intro g1 g2
 refine hK _ ?_
 clear hK K
 refine AW.seq_k fun K hK=>AW.region (by kernel_rfl) ?_
 simp -implicitDefEqProofs only[go_sem,seval,↓reduceIte]
 intro g3 g4
 refine hK _ ?_
 clear hK K
 refine AW.seq_k fun K hK=>AW.region (by kernel_rfl) ?_
 simp -implicitDefEqProofs only[go_sem,seval,↓reduceIte]
 refine hK _ ?_
 clear hK K
 refine AW.ret ?_
 simp -implicitDefEqProofs only[go_sem,seval,↓reduceIte]
 refine endK_some ?_
 rfl
end Go.Hs
end

section
namespace Go.Hs
open Go.Proofs
set_option maxRecDepth 10000
theorem r9Among_spec (G:Nat→V) (hG:GOk G) (c:Col) (t:List UInt8) (s:Sl (List UInt8)) (hs:s.l.length<1000000) :
  Spec Tryz.prog G 55 [.str t,encSl c 1 V.str s] hNone (fun v _=>v = .bool (s.l.contains t)):=by
 refine Spec.of_code' 0 18 [.tmp 4] Tryz.func55 rfl rfl rfl rfl fun X=>?_
 refine AW.seq_k fun K hK=>AW.region (by kernel_rfl) ?_
 simp -implicitDefEqProofs only[go_sem,seval,↓reduceIte]
 refine hK _ ?_
 clear hK K
 refine AW.seq_k fun K1 hK1=>?_
 refine AW.seq_k fun K hK=>AW.region (by kernel_rfl) ?_
 simp -implicitDefEqProofs only[go_sem,seval,↓reduceIte]
 refine hK _ ?_
 clear hK K
 refine AW.block ?_
 refine AW.for s.l.length (fun k (_:Unit)=>st [(0,.str t),(1,encSl c 1 V.str s),(5,.int .i64 k)] []) (fun k _=>(s.l.take k).contains t=false) 0 () (Nat.zero_le _) rfl
  (Weak.st (by simp -implicitDefEqProofs only[go_sem,seval,↓reduceIte];try rfl) (by simp -implicitDefEqProofs only[go_sem,seval,↓reduceIte])) ?_
 intro k _ hk hR L2 hL2
 refine AW.seq_k fun K3 hK3=>?_
 refine AW.seq_k fun K hK=>AW.region (by kernel_rfl) ?_
 simp -implicitDefEqProofs only[go_sem,seval,↓reduceIte]
 refine hK _ ?_
 clear hK K
 refine AW.condS (by simp -implicitDefEqProofs only[go_sem,seval,↓reduceIte];rfl) (fun h4=>?_) (fun h4=>?_)
 ·have hk1:k<s.l.length:=by simpa using h4
  have hg:=List.getElem?_eq_getElem hk1
  have htk:s.l.take (k+1)=s.l.take k++[s.l[k]]:=by rw [List.take_succ_eq_append_getElem hk1]
  have hmem:=List.getElem_mem hk1
  generalize s.l[k]=x at hg htk hmem
  refine AW.skip ?_
  simp -implicitDefEqProofs only[go_sem,seval,↓reduceIte]
  refine hK3 _ ?_
  refine AW.seq_k fun K5 hK5=>?_
  refine AW.block ?_
  refine AW.seq_k fun K hK=>AW.region (by kernel_rfl) ?_
  simp -implicitDefEqProofs only[go_sem,seval,↓reduceIte,hg]
  refine hK _ ?_
  clear hK K
  refine AW.condS (by simp -implicitDefEqProofs only[go_sem,seval,↓reduceIte];rfl) (fun h6=>?_) (fun h6=>?_)
  ·have h6:x=t:=by simpa using h6
   refine AW.seq_k fun K hK=>AW.region (by kernel_rfl) ?_
   simp -implicitDefEqProofs only[go_sem,seval,↓reduceIte]
   refine hK _ ?_
   clear hK K
   refine AW.ret ?_
   simp -implicitDefEqProofs only[go_sem,seval,↓reduceIte]
   refine endK_some ?_
   have:s.l.contains t=true:=by rw [← h6];simpa using hmem
   rw [this]
  ·have h6:¬ x=t:=by simpa using h6
   refine AW.skip ?_
   simp -implicitDefEqProofs only[go_sem,seval,↓reduceIte]
   refine hK5 _ ?_
   refine AW.region (by kernel_rfl) ?_
   simp -implicitDefEqProofs only[go_sem,seval,↓reduceIte]
   refine hL2 _ ⟨hk1,(),?_,Weak.st (by simp -implicitDefEqProofs only[go_sem,seval,↓reduceIte];exact congrArg _ (w64 (by omega) (by omega))) (by simp -implicitDefEqProofs only[go_sem,seval,↓reduceIte])⟩
   rw [htk]
   simp only [List.contains_eq_mem,decide_eq_false_iff_not] at hR ⊢
   intro hm
   rcases List.mem_append.1 hm with h | h
   ·exact hR h
   ·exact h6 ((List.mem_singleton.1 h).symm)
 ·have hk1:k=s.l.length:=by simp at h4;omega
  refine AW.exit ?_
  simp -implicitDefEqProofs only[go_sem,seval,↓reduceIte]
  refine hK1 _ ?_
  refine AW.seq_k fun K hK=>AW.region (by kernel_rfl) ?_
  simp -implicitDefEqProofs only[go_sem,seval,↓reduceIte]
  refine hK _ ?_
  clear hK K
  refine AW.ret ?_
  simp -implicitDefEqProofs only[go_sem,seval,↓reduceIte]
  refine endK_some ?_
  rw [hk1,List.take_length] at hR
  rw [hR]
theorem sIndexS_spec (G:Nat→V) (hG:GOk G) (c:Col) (t:List UInt8) (s:Sl (List UInt8)) (hs:s.l.length<1000000) :
  Spec Tryz.prog G 72 [encSl c 1 V.str s,.str t] hNone (fun v _=>∃ i:Int,v = .int .i64 i∧decide (i≥0)=s.l.contains t):=by
 refine Spec.of_code' 0 19 [.tmp 4] Tryz.func72 rfl rfl rfl rfl fun X=>?_
 refine AW.seq_k fun K hK=>AW.region (by kernel_rfl) ?_
 simp -implicitDefEqProofs only[go_sem,seval,↓reduceIte]
 refine hK _ ?_
 clear hK K
 refine AW.seq_k fun K1 hK1=>?_
 refine AW.seq_k fun K hK=>AW.region (by kernel_rfl) ?_
 simp -implicitDefEqProofs only[go_sem,seval,↓reduceIte]
 refine hK _ ?_
 clear hK K
 refine AW.block ?_
 refine AW.for s.l.length (fun k (_:Unit)=>st [(0,encSl c 1 V.str s),(1,.str t),(7,.int .i64 s.l.length),(8,.int .i64 k)] []) (fun k _=>(s.l.take k).contains t=false) 0 () (Nat.zero_le _) rfl
  (Weak.st (by simp -implicitDefEqProofs only[go_sem,seval,↓reduceIte];try rfl) (by simp -implicitDefEqProofs only[go_sem,seval,↓reduceIte])) ?_
 intro k _ hk hR L2 hL2
 refine AW.seq_k fun K hK=>AW.region (by kernel_rfl) ?_
 simp -implicitDefEqProofs only[go_sem,seval,↓reduceIte]
 refine hK _ ?_
 clear hK K
 refine AW.seq_k fun K3 hK3=>?_
 refine AW.condS (by simp -implicitDefEqProofs only[go_sem,seval,↓reduceIte];rfl) (fun h4=>?_) (fun h4=>?_)
 ·have hk1:k<s.l.length:=by simpa using h4
  have hg:=List.getElem?_eq_getElem hk1
  have htk:s.l.take (k+1)=s.l.take k++[s.l[k]]:=by rw [List.take_succ_eq_append_getElem hk1]
  have hmem:=List.getElem_mem hk1
  generalize s.l[k]=x at hg htk hmem
  refine AW.skip ?_
  simp -implicitDefEqProofs only[go_sem,seval,↓reduceIte]
  refine hK3 _ ?_
  refine AW.seq_k fun K5 hK5=>?_
  refine AW.block ?_
  refine AW.seq_k fun K hK=>AW.region (by kernel_rfl) ?_
  simp -implicitDefEqProofs only[go_sem,seval,↓reduceIte]
  refine hK _ ?_
  clear hK K
  refine AW.seq_k fun K hK=>AW.region (by kernel_rfl) ?_
  simp -implicitDefEqProofs only[go_sem,seval,↓reduceIte,hg]
  refine hK _ ?_
  clear hK K
  refine AW.condS (by simp -implicitDefEqProofs only[go_sem,seval,↓reduceIte];rfl) (fun h6=>?_) (fun h6=>?_)
  ·have h6:t=x:=by simpa using h6
   refine AW.seq_k fun K hK=>AW.region (by kernel_rfl) ?_
   simp -implicitDefEqProofs only[go_sem,seval,↓reduceIte]
   refine hK _ ?_
   clear hK K
   refine AW.ret ?_
   simp -implicitDefEqProofs only[go_sem,seval,↓reduceIte]
   refine endK_some ?_
   have:s.l.contains t=true:=by rw [h6];simpa using hmem
   rw [this]
   exact ⟨_,rfl,by rw [decide_eq_true_iff];omega⟩
  ·have h6:¬ t=x:=by simpa using h6
   refine AW.skip ?_
   simp -implicitDefEqProofs only[go_sem,seval,↓reduceIte]
   refine hK5 _ ?_
   refine AW.region (by kernel_rfl) ?_
   simp -implicitDefEqProofs only[go_sem,seval,↓reduceIte]
   refine hL2 _ ⟨hk1,(),?_,Weak.st (by simp -implicitDefEqProofs only[go_sem,seval,↓reduceIte];exact congrArg _ (w64 (by omega) (by omega))) (by simp -implicitDefEqProofs only[go_sem,seval,↓reduceIte])⟩
   rw [htk]
   simp only [List.contains_eq_mem,decide_eq_false_iff_not] at hR ⊢
   intro hm
   rcases List.mem_append.1 hm with h | h
   ·exact hR h
   ·exact h6 (List.mem_singleton.1 h)
 ·have hk1:k=s.l.length:=by simp at h4;omega
  refine AW.exit ?_
  simp -implicitDefEqProofs only[go_sem,seval,↓reduceIte]
  refine hK1 _ ?_
  refine AW.seq_k fun K hK=>AW.region (by kernel_rfl) ?_
  simp -implicitDefEqProofs only[go_sem,seval,↓reduceIte]
  refine hK _ ?_
  clear hK K
  refine AW.ret ?_
  simp -implicitDefEqProofs only[go_sem,seval,↓reduceIte]
  refine endK_some ?_
  rw [hk1,List.take_length] at hR
  rw [hR]
  exact ⟨_,rfl,rfl⟩
theorem sContains_spec (G:Nat→V) (hG:GOk G) (c:Col) (t:List UInt8) (s:Sl (List UInt8)) (hs:s.l.length<1000000) :
  Spec Tryz.prog G 53 [encSl c 1 V.str s,.str t] hNone (fun v _=>v = .bool (s.l.contains t)):=by
 refine Spec.of_code' 0 9 [.tmp 4] Tryz.func53 rfl rfl rfl rfl fun X=>?_
 refine AW.seq_k fun K hK=>AW.region (by kernel_rfl) ?_
 simp -implicitDefEqProofs only[go_sem,seval,↓reduceIte]
 refine hK _ ?_
 clear hK K
 refine AW.seq_k fun K hK=>AW.region (by kernel_rfl) ?_
 simp -implicitDefEqProofs only[go_sem,seval,↓reduceIte]
 refine CallA.pure hG (by kernel_rfl) ?_
 simp -implicitDefEqProofs only[go_sem,seval,↓reduceIte]
 refine (sIndexS_spec G hG _ t s hs).mono ?_
 rintro _ _ ⟨i,rfl,hi⟩
 simp -implicitDefEqProofs only[go_sem,seval,↓reduceIte]
 refine hK _ ?_
 clear hK K
 refine AW.ret ?_
 simp -implicitDefEqProofs only[go_sem,seval,↓reduceIte]
 refine endK_some ?_
 rw [hi]
theorem tAt_spec (G:Nat→V) (hG:GOk G) (c:Col) (s:Sl Int) (hs:s.l.length<1000000) (i:Int) (hi:i<0∨0≤i∧i<s.l.length) :
  Spec Tryz.prog G 68 [.int .i64 i,.view .old (encSl c 1 (V.int .u8) s)] hNone (fun v _=>v = .int .u8 (plc s.l i)):=by
 refine Spec.of_code' 0 10 [.tmp 3] Tryz.func68 rfl rfl rfl rfl fun X=>?_
 have hP:plc s.l i=if i<0 then 0 else s.l.getD i.toNat 0:=rfl
 generalize plc s.l i=res at hP ⊢
 refine AW.seq_k fun K hK=>AW.region (by kernel_rfl) ?_
 simp -implicitDefEqProofs only[go_sem,seval,↓reduceIte]
 refine hK _ ?_
 clear hK K
 refine AW.seq_k fun K1 hK1=>?_
 refine AW.seq_k fun K hK=>AW.region (by kernel_rfl) ?_
 simp -implicitDefEqProofs only[go_sem,seval,↓reduceIte]
 refine hK _ ?_
 clear hK K
 refine AW.condS (by simp -implicitDefEqProofs only[go_sem,seval,↓reduceIte];rfl) (fun h2=>?_) (fun h2=>?_)
 ·have h2:i<0:=by simpa using h2
  rw [if_pos h2] at hP
  refine AW.seq_k fun K hK=>AW.region (by kernel_rfl) ?_
  simp -implicitDefEqProofs only[go_sem,seval,↓reduceIte]
  refine hK _ ?_
  clear hK K
  refine AW.ret ?_
  simp -implicitDefEqProofs only[go_sem,seval,↓reduceIte]
  refine endK_some ?_
  rw [hP]
 ·have h2:¬ i<0:=by simpa using h2
  rw [if_neg h2] at hP
  obtain ⟨m,rfl⟩:∃ m:Nat,i=m:=⟨i.toNat,by omega⟩
  have hm:m<s.l.length:=by omega
  have hg:=List.getElem?_eq_getElem hm
  have hgd:s.l.getD ((m:Nat):Int).toNat 0=s.l[m]:=by rw [Int.toNat_natCast,List.getD_eq_getElem?_getD,hg];rfl
  rw [hgd] at hP
  generalize s.l[m]=x at hg hP
  refine AW.skip ?_
  simp -implicitDefEqProofs only[go_sem,seval,↓reduceIte]
  refine hK1 _ ?_
  refine AW.seq_k fun K hK=>AW.region (by kernel_rfl) ?_
  simp -implicitDefEqProofs only[go_sem,seval,↓reduceIte,hg]
  refine hK _ ?_
  clear hK K
  refine AW.ret ?_
  simp -implicitDefEqProofs only[go_sem,seval,↓reduceIte]
  refine endK_some ?_
  rw [hP]
end Go.Hs
end
