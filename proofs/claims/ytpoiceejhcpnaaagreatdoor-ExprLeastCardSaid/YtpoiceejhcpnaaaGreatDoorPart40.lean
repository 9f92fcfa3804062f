/- Part 40 of the proof of a statement of seat YtpoiceejhcpnaaaGreatDoor: HsERedR2 HsERedR3 HsENumRef5 HsENumRefPut HsEExpr2 HsEExpr3 HsEExpr4 HsEExprDep HsEExprDep2 HsEExprDep3 HsEPrtR HsEExprDep4. -/
import Derived.Test.YtpoiceejhcpnaaaGreatDoorPart39
import Derived.Test.YtpoiceejhcpnaaaGreatDoorPart34
import Derived.Test.YtpoiceejhcpnaaaGreatDoorPart35
set_option linter.unusedSimpArgs false
set_option linter.unusedVariables false
section
namespace Go.Hs
open Go.Proofs
set_option maxRecDepth 10000
structure InnR (G:Nat→V) (sl:Sl Tk) (g:Nat) (inner:Inner) (i0:Nat):Prop where
 lev:∀ n r,1≤n→n≤9→i0<r.i→RSok sl.l r→RdS 1012 [] G 57 [.int .i64 n] sl g r (.bool (inner n r).1) (inner n r).2
 un:∀ r,i0<r.i→RSok sl.l r→RdS 1012 [] G 80 [] sl g r (.bool (inner 9 r).1) (inner 9 r).2
theorem nextP_ln {l:List Tk} (hT:TkOk l) (i:Nat):(nextP l i).text.length<100000:=by
 unfold nextP
 split
 ·rename_i t h
  split
  ·exact hT.text _ (List.mem_of_getElem? h)
  ·exact Nat.zero_lt_succ _
 ·exact Nat.zero_lt_succ _
theorem eatR_bal (l:List Tk) {w:List UInt8} (hw:isP w≠0) (r:RS):Bal l 0 r (eatR l w r).2∧((eatR l w r).1=true→Bal l 1 r (eatR l w r).2)∧((eatR l w r).1=true→(eatR l w r).2=r.adv):=by
 rw [eat_eq l hw]
 refine ⟨(eatP_bal l w r).1,(eatP_bal l w r).2,?_⟩
 unfold eatP
 split
 ·intro h;cases h
 ·exact fun _=>rfl
theorem rBranches_spec (G:Nat→V) (hG:GOk G) (sl:Sl Tk) (hT:TkOk sl.l) (g:Nat) (r:RS) (hr:RSok sl.l r) (hlt:r.i<sl.l.length) (inner:Inner) (hin:InnR G sl g inner r.i) (hb:Bals sl.l inner) :
  RdS 1012 [] G 117 [] sl g r (.bool (branchesR sl.l inner r).1) (branchesR sl.l inner r).2:=by
 have hTl:=hT.len
 intro gx
 refine Spec.of_code' 1000 47 [.tmp 2] Tryz.func117 rfl rfl rfl rfl fun X=>?_
 have hP:branchesR sl.l inner r=andThen (inner 1 r.adv) fun a=>andThen (eatR sl.l wThen a) fun r2=>andThen (inner 1 r2) fun b =>
  andThen (eatR sl.l wElse b) fun r3=>andThen (inner 1 r3) fun c=>andThen (eatR sl.l wEndif c) fun r4=>(true,r4.put ⟨22,0,[],a.last,b.last,c.last⟩):=rfl
 generalize branchesR sl.l inner r=res at hP ⊢
 have had:RSok sl.l r.adv:=(Bal.adv hlt).ok hr
 have hw:IntKind.i64.wrap ((r.i:Int)+1)=((r.i+1:Nat):Int):=by rw [w64 (by omega) (by omega)];omega
 have c1:=hin.lev 1 r.adv (by decide) (by decide) (Nat.lt_succ_self _) had
 have b1:=hb 1 r.adv
 generalize inner 1 r.adv=x1 at hP c1 b1
 obtain ⟨t1,a⟩:=x1
 simp only at c1 b1
 have ha:=b1.ok had
 have hau:r.i+1≤a.i:=b1.up
 refine AW.seq_k fun K hK=>AW.region (by kernel_rfl) ?_
 simp -implicitDefEqProofs only[go_sem,seval,↓reduceIte]
 refine hK _ ?_
 clear hK K
 refine AW.seq_k fun K hK=>AW.region (by kernel_rfl) ?_
 simp -implicitDefEqProofs only[go_sem,seval,↓reduceIte,rdO_K,hw]
 refine hK _ ?_
 clear hK K
 refine AW.seq_k fun K1 hK1=>?_
 cases t1 with
 | false =>
  rw [andThen_false] at hP
  refine AW.seq_k fun K hK=>AW.region (by kernel_rfl) ?_
  simp -implicitDefEqProofs only[go_sem,seval,↓reduceIte,rdO_K]
  refine RdS.call hG (c1) (gx:=gx) (by kernel_rfl) (fun F=>rfl) (by decide) (by first | rfl | (simp -implicitDefEqProofs only[go_sem,seval,↓reduceIte,List.map_cons,List.map_nil,encXN_K];try rfl)) (by first | rfl | (simp -implicitDefEqProofs only[go_sem,seval,↓reduceIte,List.map_cons,List.map_nil];try rfl)) (by first | rfl | (simp -implicitDefEqProofs only[go_sem,seval,↓reduceIte];try rfl)) (by first | rfl | (simp -implicitDefEqProofs only[go_sem,seval,↓reduceIte];try rfl)) fun gx1=>?_
  simp -implicitDefEqProofs only[go_sem,seval,↓reduceIte,sets]
  refine hK _ ?_
  clear hK K
  refine AW.condS (by simp -implicitDefEqProofs only[go_sem,seval,↓reduceIte];rfl) (fun h19=>?_) (fun h19=>?_)
  ·refine AW.seq_k fun K hK=>AW.region (by kernel_rfl) ?_
   simp -implicitDefEqProofs only[go_sem,seval,↓reduceIte]
   refine hK _ ?_
   clear hK K
   refine AW.ret ?_
   simp -implicitDefEqProofs only[go_sem,seval,↓reduceIte]
   refine endK_some ?_
   rw [hP]
   exact ⟨rfl,gx1,by first | rfl | (simp -implicitDefEqProofs only[go_sem,seval,↓reduceIte];try rfl),by first | rfl | (simp -implicitDefEqProofs only[go_sem,seval,↓reduceIte];try rfl)⟩
  ·cases h19
 | true =>
 rw [andThen_true] at hP
 have hai:a.i<1000000:=by have:=ha.1;omega
 have han:a.nodes.length<1000000:=by have:=ha.1;have:=ha.2;omega
 have c2:=rEats_spec G hG sl hT g a hai wThen
 have b2:=eatR_bal sl.l (w:=wThen) (by decide +kernel) a
 generalize eatR sl.l wThen a=x2 at hP c2 b2
 obtain ⟨t2,r2⟩:=x2
 simp only at c2 b2
 cases t2 with
 | false =>
  rw [andThen_false] at hP
  refine AW.seq_k fun K hK=>AW.region (by kernel_rfl) ?_
  simp -implicitDefEqProofs only[go_sem,seval,↓reduceIte,rdO_K]
  refine RdS.call hG (c1) (gx:=gx) (by kernel_rfl) (fun F=>rfl) (by decide) (by first | rfl | (simp -implicitDefEqProofs only[go_sem,seval,↓reduceIte,List.map_cons,List.map_nil,encXN_K];try rfl)) (by first | rfl | (simp -implicitDefEqProofs only[go_sem,seval,↓reduceIte,List.map_cons,List.map_nil];try rfl)) (by first | rfl | (simp -implicitDefEqProofs only[go_sem,seval,↓reduceIte];try rfl)) (by first | rfl | (simp -implicitDefEqProofs only[go_sem,seval,↓reduceIte];try rfl)) fun gx1=>?_
  simp -implicitDefEqProofs only[go_sem,seval,↓reduceIte,sets]
  simp -implicitDefEqProofs only[go_sem,seval,↓reduceIte,rdO_K]
  refine RdS.call hG (c2) (gx:=gx1) (by kernel_rfl) (fun F=>rfl) (by decide) (by first | rfl | (simp -implicitDefEqProofs only[go_sem,seval,↓reduceIte,List.map_cons,List.map_nil,encXN_K];try rfl)) (by first | rfl | (simp -implicitDefEqProofs only[go_sem,seval,↓reduceIte,List.map_cons,List.map_nil];try rfl)) (by first | rfl | (simp -implicitDefEqProofs only[go_sem,seval,↓reduceIte];try rfl)) (by first | rfl | (simp -implicitDefEqProofs only[go_sem,seval,↓reduceIte];try rfl)) fun gx2=>?_
  simp -implicitDefEqProofs only[go_sem,seval,↓reduceIte,sets]
  refine hK _ ?_
  clear hK K
  refine AW.condS (by simp -implicitDefEqProofs only[go_sem,seval,↓reduceIte];rfl) (fun h19=>?_) (fun h19=>?_)
  ·refine AW.seq_k fun K hK=>AW.region (by kernel_rfl) ?_
   simp -implicitDefEqProofs only[go_sem,seval,↓reduceIte]
   refine hK _ ?_
   clear hK K
   refine AW.ret ?_
   simp -implicitDefEqProofs only[go_sem,seval,↓reduceIte]
   refine endK_some ?_
   rw [hP]
   exact ⟨rfl,gx2,by first | rfl | (simp -implicitDefEqProofs only[go_sem,seval,↓reduceIte];try rfl),by first | rfl | (simp -implicitDefEqProofs only[go_sem,seval,↓reduceIte];try rfl)⟩
  ·cases h19
 | true =>
 rw [andThen_true] at hP
 have hr2:=(b2.2.1 rfl).ok ha
 have e2:=b2.2.2 rfl
 have h2n:r2.nodes=a.nodes:=by rw [e2];rfl
 have h2l:r2.last=a.last:=by rw [e2];rfl
 have h2i:r2.i=a.i+1:=by rw [e2];rfl
 have c3:=hin.lev 1 r2 (by decide) (by decide) (by omega) hr2
 have b3:=hb 1 r2
 generalize inner 1 r2=x3 at hP c3 b3
 obtain ⟨t3,b⟩:=x3
 simp only at c3 b3
 have hbo:=b3.ok hr2
 have hbu:r2.i≤b.i:=b3.up
 have hbi:b.i<1000000:=by have:=hbo.1;omega
 have hbn:b.nodes.length<1000000:=by have:=hbo.1;have:=hbo.2;omega
 refine AW.seq_k fun K hK=>AW.region (by kernel_rfl) ?_
 simp -implicitDefEqProofs only[go_sem,seval,↓reduceIte,rdO_K]
 refine RdS.call hG (c1) (gx:=gx) (by kernel_rfl) (fun F=>rfl) (by decide) (by first | rfl | (simp -implicitDefEqProofs only[go_sem,seval,↓reduceIte,List.map_cons,List.map_nil,encXN_K];try rfl)) (by first | rfl | (simp -implicitDefEqProofs only[go_sem,seval,↓reduceIte,List.map_cons,List.map_nil];try rfl)) (by first | rfl | (simp -implicitDefEqProofs only[go_sem,seval,↓reduceIte];try rfl)) (by first | rfl | (simp -implicitDefEqProofs only[go_sem,seval,↓reduceIte];try rfl)) fun gx1=>?_
 simp -implicitDefEqProofs only[go_sem,seval,↓reduceIte,sets]
 simp -implicitDefEqProofs only[go_sem,seval,↓reduceIte,rdO_K]
 refine RdS.call hG (c2) (gx:=gx1) (by kernel_rfl) (fun F=>rfl) (by decide) (by first | rfl | (simp -implicitDefEqProofs only[go_sem,seval,↓reduceIte,List.map_cons,List.map_nil,encXN_K];try rfl)) (by first | rfl | (simp -implicitDefEqProofs only[go_sem,seval,↓reduceIte,List.map_cons,List.map_nil];try rfl)) (by first | rfl | (simp -implicitDefEqProofs only[go_sem,seval,↓reduceIte];try rfl)) (by first | rfl | (simp -implicitDefEqProofs only[go_sem,seval,↓reduceIte];try rfl)) fun gx2=>?_
 simp -implicitDefEqProofs only[go_sem,seval,↓reduceIte,sets]
 refine hK _ ?_
 clear hK K
 refine AW.condS (by simp -implicitDefEqProofs only[go_sem,seval,↓reduceIte];rfl) (fun h19=>?_) (fun h19=>?_)
 ·cases h19
 refine AW.skip ?_
 simp -implicitDefEqProofs only[go_sem,seval,↓reduceIte]
 refine hK1 _ ?_
 refine AW.seq_k fun K hK=>AW.region (by kernel_rfl) ?_
 simp -implicitDefEqProofs only[go_sem,seval,↓reduceIte,rdO_K]
 have h2nn:r2.nodes.length<1000000:=by rw [h2n];exact han
 refine RdS.call hG (rLast_spec G hG sl g r2 h2nn) (gx:=gx2) (by kernel_rfl) (fun F=>rfl) (by decide) (by first | rfl | (simp -implicitDefEqProofs only[go_sem,seval,↓reduceIte,List.map_cons,List.map_nil,encXN_K];try rfl)) (by first | rfl | (simp -implicitDefEqProofs only[go_sem,seval,↓reduceIte,List.map_cons,List.map_nil];try rfl)) (by first | rfl | (simp -implicitDefEqProofs only[go_sem,seval,↓reduceIte];try rfl)) (by first | rfl | (simp -implicitDefEqProofs only[go_sem,seval,↓reduceIte];try rfl)) fun gx3=>?_
 simp -implicitDefEqProofs only[go_sem,seval,↓reduceIte,sets]
 rw [h2l]
 refine hK _ ?_
 clear hK K
 refine AW.seq_k fun K2 hK2=>?_
 cases t3 with
 | false =>
  rw [andThen_false] at hP
  refine AW.seq_k fun K hK=>AW.region (by kernel_rfl) ?_
  simp -implicitDefEqProofs only[go_sem,seval,↓reduceIte,rdO_K]
  refine RdS.call hG (c3) (gx:=gx3) (by kernel_rfl) (fun F=>rfl) (by decide) (by first | rfl | (simp -implicitDefEqProofs only[go_sem,seval,↓reduceIte,List.map_cons,List.map_nil,encXN_K];try rfl)) (by first | rfl | (simp -implicitDefEqProofs only[go_sem,seval,↓reduceIte,List.map_cons,List.map_nil];try rfl)) (by first | rfl | (simp -implicitDefEqProofs only[go_sem,seval,↓reduceIte];try rfl)) (by first | rfl | (simp -implicitDefEqProofs only[go_sem,seval,↓reduceIte];try rfl)) fun gx4=>?_
  simp -implicitDefEqProofs only[go_sem,seval,↓reduceIte,sets]
  refine hK _ ?_
  clear hK K
  refine AW.condS (by simp -implicitDefEqProofs only[go_sem,seval,↓reduceIte];rfl) (fun h29=>?_) (fun h29=>?_)
  ·refine AW.seq_k fun K hK=>AW.region (by kernel_rfl) ?_
   simp -implicitDefEqProofs only[go_sem,seval,↓reduceIte]
   refine hK _ ?_
   clear hK K
   refine AW.ret ?_
   simp -implicitDefEqProofs only[go_sem,seval,↓reduceIte]
   refine endK_some ?_
   rw [hP]
   exact ⟨rfl,gx4,by first | rfl | (simp -implicitDefEqProofs only[go_sem,seval,↓reduceIte];try rfl),by first | rfl | (simp -implicitDefEqProofs only[go_sem,seval,↓reduceIte];try rfl)⟩
  ·cases h29
 | true =>
 rw [andThen_true] at hP
 have c4:=rEats_spec G hG sl hT g b hbi wElse
 have b4:=eatR_bal sl.l (w:=wElse) (by decide +kernel) b
 generalize eatR sl.l wElse b=x4 at hP c4 b4
 obtain ⟨t4,r3⟩:=x4
 simp only at c4 b4
 cases t4 with
 | false =>
  rw [andThen_false] at hP
  refine AW.seq_k fun K hK=>AW.region (by kernel_rfl) ?_
  simp -implicitDefEqProofs only[go_sem,seval,↓reduceIte,rdO_K]
  refine RdS.call hG (c3) (gx:=gx3) (by kernel_rfl) (fun F=>rfl) (by decide) (by first | rfl | (simp -implicitDefEqProofs only[go_sem,seval,↓reduceIte,List.map_cons,List.map_nil,encXN_K];try rfl)) (by first | rfl | (simp -implicitDefEqProofs only[go_sem,seval,↓reduceIte,List.map_cons,List.map_nil];try rfl)) (by first | rfl | (simp -implicitDefEqProofs only[go_sem,seval,↓reduceIte];try rfl)) (by first | rfl | (simp -implicitDefEqProofs only[go_sem,seval,↓reduceIte];try rfl)) fun gx4=>?_
  simp -implicitDefEqProofs only[go_sem,seval,↓reduceIte,sets]
  simp -implicitDefEqProofs only[go_sem,seval,↓reduceIte,rdO_K]
  refine RdS.call hG (c4) (gx:=gx4) (by kernel_rfl) (fun F=>rfl) (by decide) (by first | rfl | (simp -implicitDefEqProofs only[go_sem,seval,↓reduceIte,List.map_cons,List.map_nil,encXN_K];try rfl)) (by first | rfl | (simp -implicitDefEqProofs only[go_sem,seval,↓reduceIte,List.map_cons,List.map_nil];try rfl)) (by first | rfl | (simp -implicitDefEqProofs only[go_sem,seval,↓reduceIte];try rfl)) (by first | rfl | (simp -implicitDefEqProofs only[go_sem,seval,↓reduceIte];try rfl)) fun gx5=>?_
  simp -implicitDefEqProofs only[go_sem,seval,↓reduceIte,sets]
  refine hK _ ?_
  clear hK K
  refine AW.condS (by simp -implicitDefEqProofs only[go_sem,seval,↓reduceIte];rfl) (fun h29=>?_) (fun h29=>?_)
  ·refine AW.seq_k fun K hK=>AW.region (by kernel_rfl) ?_
   simp -implicitDefEqProofs only[go_sem,seval,↓reduceIte]
   refine hK _ ?_
   clear hK K
   refine AW.ret ?_
   simp -implicitDefEqProofs only[go_sem,seval,↓reduceIte]
   refine endK_some ?_
   rw [hP]
   exact ⟨rfl,gx5,by first | rfl | (simp -implicitDefEqProofs only[go_sem,seval,↓reduceIte];try rfl),by first | rfl | (simp -implicitDefEqProofs only[go_sem,seval,↓reduceIte];try rfl)⟩
  ·cases h29
 | true =>
 rw [andThen_true] at hP
 have hr3:=(b4.2.1 rfl).ok hbo
 have e3:=b4.2.2 rfl
 have h3n:r3.nodes=b.nodes:=by rw [e3];rfl
 have h3l:r3.last=b.last:=by rw [e3];rfl
 have h3i:r3.i=b.i+1:=by rw [e3];rfl
 have c5:=hin.lev 1 r3 (by decide) (by decide) (by omega) hr3
 have b5:=hb 1 r3
 generalize inner 1 r3=x5 at hP c5 b5
 obtain ⟨t5,c⟩:=x5
 simp only at c5 b5
 have hco:=b5.ok hr3
 have hci:c.i<1000000:=by have:=hco.1;omega
 refine AW.seq_k fun K hK=>AW.region (by kernel_rfl) ?_
 simp -implicitDefEqProofs only[go_sem,seval,↓reduceIte,rdO_K]
 refine RdS.call hG (c3) (gx:=gx3) (by kernel_rfl) (fun F=>rfl) (by decide) (by first | rfl | (simp -implicitDefEqProofs only[go_sem,seval,↓reduceIte,List.map_cons,List.map_nil,encXN_K];try rfl)) (by first | rfl | (simp -implicitDefEqProofs only[go_sem,seval,↓reduceIte,List.map_cons,List.map_nil];try rfl)) (by first | rfl | (simp -implicitDefEqProofs only[go_sem,seval,↓reduceIte];try rfl)) (by first | rfl | (simp -implicitDefEqProofs only[go_sem,seval,↓reduceIte];try rfl)) fun gx4=>?_
 simp -implicitDefEqProofs only[go_sem,seval,↓reduceIte,sets]
 simp -implicitDefEqProofs only[go_sem,seval,↓reduceIte,rdO_K]
 refine RdS.call hG (c4) (gx:=gx4) (by kernel_rfl) (fun F=>rfl) (by decide) (by first | rfl | (simp -implicitDefEqProofs only[go_sem,seval,↓reduceIte,List.map_cons,List.map_nil,encXN_K];try rfl)) (by first | rfl | (simp -implicitDefEqProofs only[go_sem,seval,↓reduceIte,List.map_cons,List.map_nil];try rfl)) (by first | rfl | (simp -implicitDefEqProofs only[go_sem,seval,↓reduceIte];try rfl)) (by first | rfl | (simp -implicitDefEqProofs only[go_sem,seval,↓reduceIte];try rfl)) fun gx5=>?_
 simp -implicitDefEqProofs only[go_sem,seval,↓reduceIte,sets]
 refine hK _ ?_
 clear hK K
 refine AW.condS (by simp -implicitDefEqProofs only[go_sem,seval,↓reduceIte];rfl) (fun h29=>?_) (fun h29=>?_)
 ·cases h29
 refine AW.skip ?_
 simp -implicitDefEqProofs only[go_sem,seval,↓reduceIte]
 refine hK2 _ ?_
 refine AW.seq_k fun K hK=>AW.region (by kernel_rfl) ?_
 simp -implicitDefEqProofs only[go_sem,seval,↓reduceIte,rdO_K]
 have h3nn:r3.nodes.length<1000000:=by rw [h3n];exact hbn
 refine RdS.call hG (rLast_spec G hG sl g r3 h3nn) (gx:=gx5) (by kernel_rfl) (fun F=>rfl) (by decide) (by first | rfl | (simp -implicitDefEqProofs only[go_sem,seval,↓reduceIte,List.map_cons,List.map_nil,encXN_K];try rfl)) (by first | rfl | (simp -implicitDefEqProofs only[go_sem,seval,↓reduceIte,List.map_cons,List.map_nil];try rfl)) (by first | rfl | (simp -implicitDefEqProofs only[go_sem,seval,↓reduceIte];try rfl)) (by first | rfl | (simp -implicitDefEqProofs only[go_sem,seval,↓reduceIte];try rfl)) fun gx6=>?_
 simp -implicitDefEqProofs only[go_sem,seval,↓reduceIte,sets]
 rw [h3l]
 refine hK _ ?_
 clear hK K
 cases t5 with
 | false =>
  rw [andThen_false] at hP
  refine AW.seq_k fun K hK=>AW.region (by kernel_rfl) ?_
  simp -implicitDefEqProofs only[go_sem,seval,↓reduceIte,rdO_K]
  refine RdS.call hG (c5) (gx:=gx6) (by kernel_rfl) (fun F=>rfl) (by decide) (by first | rfl | (simp -implicitDefEqProofs only[go_sem,seval,↓reduceIte,List.map_cons,List.map_nil,encXN_K];try rfl)) (by first | rfl | (simp -implicitDefEqProofs only[go_sem,seval,↓reduceIte,List.map_cons,List.map_nil];try rfl)) (by first | rfl | (simp -implicitDefEqProofs only[go_sem,seval,↓reduceIte];try rfl)) (by first | rfl | (simp -implicitDefEqProofs only[go_sem,seval,↓reduceIte];try rfl)) fun gx7=>?_
  simp -implicitDefEqProofs only[go_sem,seval,↓reduceIte,sets]
  refine hK _ ?_
  clear hK K
  refine AW.ret ?_
  simp -implicitDefEqProofs only[go_sem,seval,↓reduceIte]
  refine endK_some ?_
  rw [hP]
  exact ⟨rfl,gx7,by first | rfl | (simp -implicitDefEqProofs only[go_sem,seval,↓reduceIte];try rfl),by first | rfl | (simp -implicitDefEqProofs only[go_sem,seval,↓reduceIte];try rfl)⟩
 | true =>
 rw [andThen_true] at hP
 have c6:=rEats_spec G hG sl hT g c hci wEndif
 have b6:=eatR_bal sl.l (w:=wEndif) (by decide +kernel) c
 generalize eatR sl.l wEndif c=x6 at hP c6 b6
 obtain ⟨t6,r4⟩:=x6
 simp only at c6 b6
 cases t6 with
 | false =>
  rw [andThen_false] at hP
  refine AW.seq_k fun K hK=>AW.region (by kernel_rfl) ?_
  simp -implicitDefEqProofs only[go_sem,seval,↓reduceIte,rdO_K]
  refine RdS.call hG (c5) (gx:=gx6) (by kernel_rfl) (fun F=>rfl) (by decide) (by first | rfl | (simp -implicitDefEqProofs only[go_sem,seval,↓reduceIte,List.map_cons,List.map_nil,encXN_K];try rfl)) (by first | rfl | (simp -implicitDefEqProofs only[go_sem,seval,↓reduceIte,List.map_cons,List.map_nil];try rfl)) (by first | rfl | (simp -implicitDefEqProofs only[go_sem,seval,↓reduceIte];try rfl)) (by first | rfl | (simp -implicitDefEqProofs only[go_sem,seval,↓reduceIte];try rfl)) fun gx7=>?_
  simp -implicitDefEqProofs only[go_sem,seval,↓reduceIte,sets]
  simp -implicitDefEqProofs only[go_sem,seval,↓reduceIte,rdO_K]
  refine RdS.call hG (c6) (gx:=gx7) (by kernel_rfl) (fun F=>rfl) (by decide) (by first | rfl | (simp -implicitDefEqProofs only[go_sem,seval,↓reduceIte,List.map_cons,List.map_nil,encXN_K];try rfl)) (by first | rfl | (simp -implicitDefEqProofs only[go_sem,seval,↓reduceIte,List.map_cons,List.map_nil];try rfl)) (by first | rfl | (simp -implicitDefEqProofs only[go_sem,seval,↓reduceIte];try rfl)) (by first | rfl | (simp -implicitDefEqProofs only[go_sem,seval,↓reduceIte];try rfl)) fun gx8=>?_
  simp -implicitDefEqProofs only[go_sem,seval,↓reduceIte,sets]
  refine hK _ ?_
  clear hK K
  refine AW.ret ?_
  simp -implicitDefEqProofs only[go_sem,seval,↓reduceIte]
  refine endK_some ?_
  rw [hP]
  exact ⟨rfl,gx8,by first | rfl | (simp -implicitDefEqProofs only[go_sem,seval,↓reduceIte];try rfl),by first | rfl | (simp -implicitDefEqProofs only[go_sem,seval,↓reduceIte];try rfl)⟩
 | true =>
 rw [andThen_true] at hP
 have hr4:=(b6.2.1 rfl).ok hco
 have e4:=b6.2.2 rfl
 have h4l:r4.last=c.last:=by rw [e4];rfl
 have h4n:r4.nodes.length<1000000:=by have:=hr4.1;have:=hr4.2;omega
 refine AW.seq_k fun K hK=>AW.region (by kernel_rfl) ?_
 simp -implicitDefEqProofs only[go_sem,seval,↓reduceIte,rdO_K]
 refine RdS.call hG (c5) (gx:=gx6) (by kernel_rfl) (fun F=>rfl) (by decide) (by first | rfl | (simp -implicitDefEqProofs only[go_sem,seval,↓reduceIte,List.map_cons,List.map_nil,encXN_K];try rfl)) (by first | rfl | (simp -implicitDefEqProofs only[go_sem,seval,↓reduceIte,List.map_cons,List.map_nil];try rfl)) (by first | rfl | (simp -implicitDefEqProofs only[go_sem,seval,↓reduceIte];try rfl)) (by first | rfl | (simp -implicitDefEqProofs only[go_sem,seval,↓reduceIte];try rfl)) fun gx7=>?_
 simp -implicitDefEqProofs only[go_sem,seval,↓reduceIte,sets]
 simp -implicitDefEqProofs only[go_sem,seval,↓reduceIte,rdO_K]
 refine RdS.call hG (c6) (gx:=gx7) (by kernel_rfl) (fun F=>rfl) (by decide) (by first | rfl | (simp -implicitDefEqProofs only[go_sem,seval,↓reduceIte,List.map_cons,List.map_nil,encXN_K];try rfl)) (by first | rfl | (simp -implicitDefEqProofs only[go_sem,seval,↓reduceIte,List.map_cons,List.map_nil];try rfl)) (by first | rfl | (simp -implicitDefEqProofs only[go_sem,seval,↓reduceIte];try rfl)) (by first | rfl | (simp -implicitDefEqProofs only[go_sem,seval,↓reduceIte];try rfl)) fun gx8=>?_
 simp -implicitDefEqProofs only[go_sem,seval,↓reduceIte,sets]
 simp -implicitDefEqProofs only[go_sem,seval,↓reduceIte,rdO_K]
 refine RdS.call hG (rLast_spec G hG sl g r4 h4n) (gx:=gx8) (by kernel_rfl) (fun F=>rfl) (by decide) (by first | rfl | (simp -implicitDefEqProofs only[go_sem,seval,↓reduceIte,List.map_cons,List.map_nil,encXN_K];try rfl)) (by first | rfl | (simp -implicitDefEqProofs only[go_sem,seval,↓reduceIte,List.map_cons,List.map_nil];try rfl)) (by first | rfl | (simp -implicitDefEqProofs only[go_sem,seval,↓reduceIte];try rfl)) (by first | rfl | (simp -implicitDefEqProofs only[go_sem,seval,↓reduceIte];try rfl)) fun gx9=>?_
 simp -implicitDefEqProofs only[go_sem,seval,↓reduceIte,sets]
 rw [h4l]
 simp -implicitDefEqProofs only[go_sem,seval,↓reduceIte,rdO_K]
 rw [← encXN_K ⟨22,0,[],a.last,b.last,c.last⟩]
 refine RdS.call hG (rPutN_spec G hG sl g r4 h4n ⟨22,0,[],a.last,b.last,c.last⟩) (gx:=gx9) (by kernel_rfl) (fun F=>rfl) (by decide) (by first | rfl | (simp -implicitDefEqProofs only[go_sem,seval,↓reduceIte,List.map_cons,List.map_nil,encXN_K];try rfl)) (by first | rfl | (simp -implicitDefEqProofs only[go_sem,seval,↓reduceIte,List.map_cons,List.map_nil];try rfl)) (by first | rfl | (simp -implicitDefEqProofs only[go_sem,seval,↓reduceIte];try rfl)) (by first | rfl | (simp -implicitDefEqProofs only[go_sem,seval,↓reduceIte];try rfl)) fun gxa=>?_
 simp -implicitDefEqProofs only[go_sem,seval,↓reduceIte,sets]
 refine hK _ ?_
 clear hK K
 refine AW.ret ?_
 simp -implicitDefEqProofs only[go_sem,seval,↓reduceIte]
 refine endK_some ?_
 rw [hP]
 exact ⟨rfl,gxa,by first | rfl | (simp -implicitDefEqProofs only[go_sem,seval,↓reduceIte];try rfl),by first | rfl | (simp -implicitDefEqProofs only[go_sem,seval,↓reduceIte];try rfl)⟩
theorem rPrimary_spec (G:Nat→V) (hG:GOk G) (sl:Sl Tk) (hT:TkOk sl.l) (g:Nat) (r:RS) (hr:RSok sl.l r) (inner:Inner) (hin:InnR G sl g inner r.i) (hb:Bals sl.l inner) :
  RdS 1012 [] G 79 [] sl g r (.bool (primR sl.l inner r).1) (primR sl.l inner r).2:=by
 have hTl:=hT.len
 have hri:r.i<1000000:=by have:=hr.1;omega
 have hrn:r.nodes.length<1000000:=by have:=hr.2;omega
 have hw:IntKind.i64.wrap ((r.i:Int)+1)=((r.i+1:Nat):Int):=by rw [w64 (by omega) (by omega)];omega
 intro gx
 refine Spec.of_code' 1000 83 [.tmp 2] Tryz.func79 rfl rfl rfl rfl fun X=>?_
 have hP:primR sl.l inner r=if (nextP sl.l r.i).text=[40] then andThen (inner 1 r.adv) (eatR sl.l [41])
  else if (nextP sl.l r.i).text=wIf then branchesR sl.l inner r
  else if (nextP sl.l r.i).text=[116,114,117,101] then leafP r 3 0 []
  else if (nextP sl.l r.i).text=[102,97,108,115,101] then leafP r 4 0 []
  else if (nextP sl.l r.i).text≠[]∧(nextP sl.l r.i).kind=1 then numberR r (nextP sl.l r.i).text
  else if (nextP sl.l r.i).text≠[]∧(nextP sl.l r.i).kind=2 then leafP r 2 0 (nextP sl.l r.i).text
  else (false,r.err 80):=rfl
 have htl:=nextP_ln hT r.i
 have hbr:=fun h=>rBranches_spec G hG sl hT g r hr h inner hin hb
 have hne:(nextP sl.l r.i).text≠[]→∃ t,sl.l[r.i]? = some t∧nextP sl.l r.i=t∧r.i<sl.l.length:=by
  intro h
  unfold nextP at h ⊢
  cases hg:sl.l[r.i]? with
  | none=>rw [hg] at h;exact absurd rfl h
  | some t =>
   rw [hg] at h
   simp only at h
   split at h
   ·rename_i q
    refine ⟨t,rfl,?_,(List.getElem?_eq_some_iff.1 hg).1⟩
    simp only
    rw [if_pos q]
   ·exact absurd rfl h
 have hadv:(nextP sl.l r.i).text≠[]→RSok sl.l r.adv:=fun h=>by
  obtain ⟨t,_,_,q⟩:=hne h
  exact (Bal.adv q).ok hr
 generalize primR sl.l inner r=res at hP ⊢
 refine AW.seq_k fun K hK=>AW.region (by kernel_rfl) ?_
 simp -implicitDefEqProofs only[go_sem,seval,↓reduceIte]
 refine hK _ ?_
 clear hK K
 refine AW.seq_k fun K hK=>AW.region (by kernel_rfl) ?_
 simp -implicitDefEqProofs only[go_sem,seval,↓reduceIte]
 refine RdS.call hG (rNext_spec G hG sl hT g r hri) (gx:=gx) (by kernel_rfl) (fun F=>rfl) (by decide) (by first | rfl | (simp -implicitDefEqProofs only[go_sem,seval,↓reduceIte,List.map_cons,List.map_nil,encXN_K];try rfl)) (by first | rfl | (simp -implicitDefEqProofs only[go_sem,seval,↓reduceIte,List.map_cons,List.map_nil];try rfl)) (by first | rfl | (simp -implicitDefEqProofs only[go_sem,seval,↓reduceIte];try rfl)) (by first | rfl | (simp -implicitDefEqProofs only[go_sem,seval,↓reduceIte];try rfl)) fun gx1=>?_
 simp -implicitDefEqProofs only[go_sem,seval,↓reduceIte,sets]
 refine hK _ ?_
 clear hK K
 generalize nextP sl.l r.i=t at hP htl hadv hne ⊢
 obtain ⟨k,t,p⟩:=t
 simp only at hP htl hadv hne
 refine AW.seqJ (fun (_:Unit)=>st [(0,.ptr 8 g 0)] [(8,rdO 1012 [] sl g gx1 r),(1012,ndO gx1 r.nodes)]) (fun _=>res=(false,r.err 80)) (fun K1 hK1=>?_) ?_
 rotate_left
 ·intro _ hP
  refine AW.seq_k fun K hK=>AW.region (by kernel_rfl) ?_
  simp -implicitDefEqProofs only[go_sem,seval,↓reduceIte,rdO_K]
  refine hK _ ?_
  clear hK K
  refine AW.seq_k fun K hK=>AW.region (by kernel_rfl) ?_
  simp -implicitDefEqProofs only[go_sem,seval,↓reduceIte]
  refine hK _ ?_
  clear hK K
  refine AW.ret ?_
  simp -implicitDefEqProofs only[go_sem,seval,↓reduceIte]
  refine endK_some ?_
  rw [hP]
  exact ⟨rfl,gx1,by first | rfl | (simp -implicitDefEqProofs only[go_sem,seval,↓reduceIte];try rfl),by first | rfl | (simp -implicitDefEqProofs only[go_sem,seval,↓reduceIte];try rfl)⟩
 refine AW.block ?_
 by_cases c1:t=[40]
 ·have e1:(t==[40])=true:=by simpa using c1
  have htn:t≠[]:=by rw [c1];simp
  rw [if_pos c1] at hP
  have hc:=hin.lev 1 r.adv (by decide) (by decide) (Nat.lt_succ_self _) (hadv htn)
  have hbl:=(hb 1 r.adv).ok (hadv htn)
  generalize inner 1 r.adv=x at hc hP hbl
  obtain ⟨b,a⟩:=x
  simp only at hc hbl
  have hai:a.i<1000000:=by have:=hbl.1;omega
  refine AW.seq_k fun K hK=>AW.region (by kernel_rfl) ?_
  simp -implicitDefEqProofs only[go_sem,seval,↓reduceIte,e1]
  refine hK _ ?_
  clear hK K
  refine AW.condS (by simp -implicitDefEqProofs only[go_sem,seval,↓reduceIte];rfl) (fun h2=>?_) (fun h2=>?_)
  rotate_left
  ·cases h2
  refine AW.seq_k fun K hK=>AW.region (by kernel_rfl) ?_
  simp -implicitDefEqProofs only[go_sem,seval,↓reduceIte,rdO_K,hw]
  refine hK _ ?_
  clear hK K
  cases b with
  | false =>
   rw [andThen_false] at hP
   refine AW.seq_k fun K hK=>AW.region (by kernel_rfl) ?_
   simp -implicitDefEqProofs only[go_sem,seval,↓reduceIte,rdO_K]
   refine RdS.call hG (hc) (gx:=gx1) (by kernel_rfl) (fun F=>rfl) (by decide) (by first | rfl | (simp -implicitDefEqProofs only[go_sem,seval,↓reduceIte,List.map_cons,List.map_nil,encXN_K];try rfl)) (by first | rfl | (simp -implicitDefEqProofs only[go_sem,seval,↓reduceIte,List.map_cons,List.map_nil];try rfl)) (by first | rfl | (simp -implicitDefEqProofs only[go_sem,seval,↓reduceIte];try rfl)) (by first | rfl | (simp -implicitDefEqProofs only[go_sem,seval,↓reduceIte];try rfl)) fun gx2=>?_
   simp -implicitDefEqProofs only[go_sem,seval,↓reduceIte,sets]
   refine hK _ ?_
   clear hK K
   refine AW.ret ?_
   simp -implicitDefEqProofs only[go_sem,seval,↓reduceIte]
   refine endK_some ?_
   rw [hP]
   exact ⟨rfl,gx2,by first | rfl | (simp -implicitDefEqProofs only[go_sem,seval,↓reduceIte];try rfl),by first | rfl | (simp -implicitDefEqProofs only[go_sem,seval,↓reduceIte];try rfl)⟩
  | true =>
   rw [andThen_true] at hP
   refine AW.seq_k fun K hK=>AW.region (by kernel_rfl) ?_
   simp -implicitDefEqProofs only[go_sem,seval,↓reduceIte,rdO_K]
   refine RdS.call hG (hc) (gx:=gx1) (by kernel_rfl) (fun F=>rfl) (by decide) (by first | rfl | (simp -implicitDefEqProofs only[go_sem,seval,↓reduceIte,List.map_cons,List.map_nil,encXN_K];try rfl)) (by first | rfl | (simp -implicitDefEqProofs only[go_sem,seval,↓reduceIte,List.map_cons,List.map_nil];try rfl)) (by first | rfl | (simp -implicitDefEqProofs only[go_sem,seval,↓reduceIte];try rfl)) (by first | rfl | (simp -implicitDefEqProofs only[go_sem,seval,↓reduceIte];try rfl)) fun gx2=>?_
   simp -implicitDefEqProofs only[go_sem,seval,↓reduceIte,sets]
   simp -implicitDefEqProofs only[go_sem,seval,↓reduceIte,rdO_K]
   refine RdS.call hG (rEats_spec G hG sl hT g a hai [41]) (gx:=gx2) (by kernel_rfl) (fun F=>rfl) (by decide) (by first | rfl | (simp -implicitDefEqProofs only[go_sem,seval,↓reduceIte,List.map_cons,List.map_nil,encXN_K];try rfl)) (by first | rfl | (simp -implicitDefEqProofs only[go_sem,seval,↓reduceIte,List.map_cons,List.map_nil];try rfl)) (by first | rfl | (simp -implicitDefEqProofs only[go_sem,seval,↓reduceIte];try rfl)) (by first | rfl | (simp -implicitDefEqProofs only[go_sem,seval,↓reduceIte];try rfl)) fun gx3=>?_
   simp -implicitDefEqProofs only[go_sem,seval,↓reduceIte,sets]
   generalize eatR sl.l [41] a=y at hP ⊢
   obtain ⟨b,a2⟩:=y
   cases b with
   | true =>
    simp -implicitDefEqProofs only[go_sem,seval,↓reduceIte]
    refine hK _ ?_
    clear hK K
    refine AW.ret ?_
    simp -implicitDefEqProofs only[go_sem,seval,↓reduceIte]
    refine endK_some ?_
    rw [hP]
    exact ⟨rfl,gx3,by first | rfl | (simp -implicitDefEqProofs only[go_sem,seval,↓reduceIte];try rfl),by first | rfl | (simp -implicitDefEqProofs only[go_sem,seval,↓reduceIte];try rfl)⟩
   | false =>
    simp -implicitDefEqProofs only[go_sem,seval,↓reduceIte]
    refine hK _ ?_
    clear hK K
    refine AW.ret ?_
    simp -implicitDefEqProofs only[go_sem,seval,↓reduceIte]
    refine endK_some ?_
    rw [hP]
    exact ⟨rfl,gx3,by first | rfl | (simp -implicitDefEqProofs only[go_sem,seval,↓reduceIte];try rfl),by first | rfl | (simp -implicitDefEqProofs only[go_sem,seval,↓reduceIte];try rfl)⟩
 have e1:(t==[40])=false:=by simpa using c1
 rw [if_neg c1] at hP
 refine AW.seq_k fun K hK=>AW.region (by kernel_rfl) ?_
 simp -implicitDefEqProofs only[go_sem,seval,↓reduceIte,e1]
 refine hK _ ?_
 clear hK K
 refine AW.condS (by simp -implicitDefEqProofs only[go_sem,seval,↓reduceIte];rfl) (fun h2=>?_) (fun h2=>?_)
 ·cases h2
 clear h2
 by_cases c2:t=wIf
 ·have e2:(t==[105,102])=true:=by rw [c2];rfl
  have htn:t≠[]:=by rw [c2];decide
  obtain ⟨_,_,_,hlt⟩:=hne htn
  rw [if_pos c2] at hP
  refine AW.seq_k fun K hK=>AW.region (by kernel_rfl) ?_
  simp -implicitDefEqProofs only[go_sem,seval,↓reduceIte,e2]
  refine hK _ ?_
  clear hK K
  refine AW.condS (by simp -implicitDefEqProofs only[go_sem,seval,↓reduceIte];rfl) (fun h2=>?_) (fun h2=>?_)
  rotate_left
  ·cases h2
  refine AW.seq_k fun K hK=>AW.region (by kernel_rfl) ?_
  simp -implicitDefEqProofs only[go_sem,seval,↓reduceIte]
  refine RdS.call hG (hbr hlt) (gx:=gx1) (by kernel_rfl) (fun F=>rfl) (by decide) (by first | rfl | (simp -implicitDefEqProofs only[go_sem,seval,↓reduceIte,List.map_cons,List.map_nil,encXN_K];try rfl)) (by first | rfl | (simp -implicitDefEqProofs only[go_sem,seval,↓reduceIte,List.map_cons,List.map_nil];try rfl)) (by first | rfl | (simp -implicitDefEqProofs only[go_sem,seval,↓reduceIte];try rfl)) (by first | rfl | (simp -implicitDefEqProofs only[go_sem,seval,↓reduceIte];try rfl)) fun gx2=>?_
  simp -implicitDefEqProofs only[go_sem,seval,↓reduceIte,sets]
  refine hK _ ?_
  clear hK K
  refine AW.ret ?_
  simp -implicitDefEqProofs only[go_sem,seval,↓reduceIte]
  refine endK_some ?_
  rw [hP]
  exact ⟨rfl,gx2,by first | rfl | (simp -implicitDefEqProofs only[go_sem,seval,↓reduceIte];try rfl),by first | rfl | (simp -implicitDefEqProofs only[go_sem,seval,↓reduceIte];try rfl)⟩
 have e2:(t==[105,102])=false:=by rw [beq_eq_false_iff_ne];exact c2
 rw [if_neg c2] at hP
 refine AW.seq_k fun K hK=>AW.region (by kernel_rfl) ?_
 simp -implicitDefEqProofs only[go_sem,seval,↓reduceIte,e2]
 refine hK _ ?_
 clear hK K
 refine AW.condS (by simp -implicitDefEqProofs only[go_sem,seval,↓reduceIte];rfl) (fun h2=>?_) (fun h2=>?_)
 ·cases h2
 clear h2
 by_cases c3:t=[116,114,117,101]
 ·have e3:(t==[116,114,117,101])=true:=by simpa using c3
  rw [if_pos c3] at hP
  refine AW.seq_k fun K hK=>AW.region (by kernel_rfl) ?_
  simp -implicitDefEqProofs only[go_sem,seval,↓reduceIte,e3]
  refine hK _ ?_
  clear hK K
  refine AW.condS (by simp -implicitDefEqProofs only[go_sem,seval,↓reduceIte];rfl) (fun h2=>?_) (fun h2=>?_)
  rotate_left
  ·cases h2
  refine AW.seq_k fun K hK=>AW.region (by kernel_rfl) ?_
  simp -implicitDefEqProofs only[go_sem,seval,↓reduceIte]
  rw [← encXN_K ⟨3,0,[],0,0,0⟩]
  refine RdS.call hG (rLeaf_spec G hG sl g r hri hrn 3 0 [] 0 0 0) (gx:=gx1) (by kernel_rfl) (fun F=>rfl) (by decide) (by first | rfl | (simp -implicitDefEqProofs only[go_sem,seval,↓reduceIte,List.map_cons,List.map_nil,encXN_K];try rfl)) (by first | rfl | (simp -implicitDefEqProofs only[go_sem,seval,↓reduceIte,List.map_cons,List.map_nil];try rfl)) (by first | rfl | (simp -implicitDefEqProofs only[go_sem,seval,↓reduceIte];try rfl)) (by first | rfl | (simp -implicitDefEqProofs only[go_sem,seval,↓reduceIte];try rfl)) fun gx2=>?_
  simp -implicitDefEqProofs only[go_sem,seval,↓reduceIte,sets]
  refine hK _ ?_
  clear hK K
  refine AW.ret ?_
  simp -implicitDefEqProofs only[go_sem,seval,↓reduceIte]
  refine endK_some ?_
  rw [hP]
  exact ⟨rfl,gx2,by first | rfl | (simp -implicitDefEqProofs only[go_sem,seval,↓reduceIte];try rfl),by first | rfl | (simp -implicitDefEqProofs only[go_sem,seval,↓reduceIte];try rfl)⟩
 have e3:(t==[116,114,117,101])=false:=by simpa using c3
 rw [if_neg c3] at hP
 refine AW.seq_k fun K hK=>AW.region (by kernel_rfl) ?_
 simp -implicitDefEqProofs only[go_sem,seval,↓reduceIte,e3]
 refine hK _ ?_
 clear hK K
 refine AW.condS (by simp -implicitDefEqProofs only[go_sem,seval,↓reduceIte];rfl) (fun h2=>?_) (fun h2=>?_)
 ·cases h2
 clear h2
 by_cases c4:t=[102,97,108,115,101]
 ·have e4:(t==[102,97,108,115,101])=true:=by simpa using c4
  rw [if_pos c4] at hP
  refine AW.seq_k fun K hK=>AW.region (by kernel_rfl) ?_
  simp -implicitDefEqProofs only[go_sem,seval,↓reduceIte,e4]
  refine hK _ ?_
  clear hK K
  refine AW.condS (by simp -implicitDefEqProofs only[go_sem,seval,↓reduceIte];rfl) (fun h2=>?_) (fun h2=>?_)
  rotate_left
  ·cases h2
  refine AW.seq_k fun K hK=>AW.region (by kernel_rfl) ?_
  simp -implicitDefEqProofs only[go_sem,seval,↓reduceIte]
  rw [← encXN_K ⟨4,0,[],0,0,0⟩]
  refine RdS.call hG (rLeaf_spec G hG sl g r hri hrn 4 0 [] 0 0 0) (gx:=gx1) (by kernel_rfl) (fun F=>rfl) (by decide) (by first | rfl | (simp -implicitDefEqProofs only[go_sem,seval,↓reduceIte,List.map_cons,List.map_nil,encXN_K];try rfl)) (by first | rfl | (simp -implicitDefEqProofs only[go_sem,seval,↓reduceIte,List.map_cons,List.map_nil];try rfl)) (by first | rfl | (simp -implicitDefEqProofs only[go_sem,seval,↓reduceIte];try rfl)) (by first | rfl | (simp -implicitDefEqProofs only[go_sem,seval,↓reduceIte];try rfl)) fun gx2=>?_
  simp -implicitDefEqProofs only[go_sem,seval,↓reduceIte,sets]
  refine hK _ ?_
  clear hK K
  refine AW.ret ?_
  simp -implicitDefEqProofs only[go_sem,seval,↓reduceIte]
  refine endK_some ?_
  rw [hP]
  exact ⟨rfl,gx2,by first | rfl | (simp -implicitDefEqProofs only[go_sem,seval,↓reduceIte];try rfl),by first | rfl | (simp -implicitDefEqProofs only[go_sem,seval,↓reduceIte];try rfl)⟩
 have e4:(t==[102,97,108,115,101])=false:=by simpa using c4
 rw [if_neg c4] at hP
 refine AW.seq_k fun K hK=>AW.region (by kernel_rfl) ?_
 simp -implicitDefEqProofs only[go_sem,seval,↓reduceIte,e4]
 refine hK _ ?_
 clear hK K
 refine AW.condS (by simp -implicitDefEqProofs only[go_sem,seval,↓reduceIte];rfl) (fun h2=>?_) (fun h2=>?_)
 ·cases h2
 clear h2
 by_cases c5:t=[]
 ·have e5:(t==[])=true:=by rw [c5];rfl
  rw [if_neg (fun h=>h.1 c5),if_neg (fun h=>h.1 c5)] at hP
  refine AW.seq_k fun K hK=>AW.regionT ⟨fun _ => .top,fun _ => .pure⟩ (by kernel_rfl) hG (by kernel_rfl) (by kernel_rfl) ?_
  simp -implicitDefEqProofs only[go_sem,seval,↓reduceIte,e5]
  refine hK _ ?_
  clear hK K
  refine AW.condS (by simp -implicitDefEqProofs only[go_sem,seval,↓reduceIte];rfl) (fun h2=>?_) (fun h2=>?_)
  ·cases h2
  clear h2
  refine AW.seq_k fun K hK=>AW.regionT ⟨fun _ => .top,fun _ => .pure⟩ (by kernel_rfl) hG (by kernel_rfl) (by kernel_rfl) ?_
  simp -implicitDefEqProofs only[go_sem,seval,↓reduceIte,e5]
  refine hK _ ?_
  clear hK K
  refine AW.condS (by simp -implicitDefEqProofs only[go_sem,seval,↓reduceIte];rfl) (fun h2=>?_) (fun h2=>?_)
  ·cases h2
  refine AW.skip ?_
  simp -implicitDefEqProofs only[go_sem,seval,↓reduceIte]
  exact hK1 _ () hP (Weak.st (by simp -implicitDefEqProofs only[go_sem,seval,↓reduceIte];try rfl) (by simp -implicitDefEqProofs only[go_sem,seval,↓reduceIte];try rfl))
 have e5:(t==[])=false:=by simpa using c5
 obtain ⟨t0,hg,ht0,hlt⟩:=hne c5
 have hgk:sl.l[r.i]? = some ⟨k,t,p⟩:=by rw [hg,ht0]
 by_cases k1:k=1
 ·have q1:(k==1)=true:=by simpa using k1
  rw [if_pos ⟨c5,k1⟩] at hP
  refine AW.seq_k fun K hK=>AW.regionT ⟨fun _ => .top,fun _ => .pure⟩ (by kernel_rfl) hG (by kernel_rfl) (by kernel_rfl) ?_
  simp -implicitDefEqProofs only[go_sem,seval,↓reduceIte,e5,rdO_K,hgk,encTk_K,q1]
  refine hK _ ?_
  clear hK K
  refine AW.condS (by simp -implicitDefEqProofs only[go_sem,seval,↓reduceIte];rfl) (fun h2=>?_) (fun h2=>?_)
  rotate_left
  ·cases h2
  refine AW.seq_k fun K hK=>AW.region (by kernel_rfl) ?_
  simp -implicitDefEqProofs only[go_sem,seval,↓reduceIte,rdO_K]
  refine RdS.call hG (rNumber_spec G hG sl g r hri hrn t htl) (gx:=gx1) (by kernel_rfl) (fun F=>rfl) (by decide) (by first | rfl | (simp -implicitDefEqProofs only[go_sem,seval,↓reduceIte,List.map_cons,List.map_nil,encXN_K];try rfl)) (by first | rfl | (simp -implicitDefEqProofs only[go_sem,seval,↓reduceIte,List.map_cons,List.map_nil];try rfl)) (by first | rfl | (simp -implicitDefEqProofs only[go_sem,seval,↓reduceIte];try rfl)) (by first | rfl | (simp -implicitDefEqProofs only[go_sem,seval,↓reduceIte];try rfl)) fun gx2=>?_
  simp -implicitDefEqProofs only[go_sem,seval,↓reduceIte,sets]
  refine hK _ ?_
  clear hK K
  refine AW.ret ?_
  simp -implicitDefEqProofs only[go_sem,seval,↓reduceIte]
  refine endK_some ?_
  rw [hP]
  exact ⟨rfl,gx2,by first | rfl | (simp -implicitDefEqProofs only[go_sem,seval,↓reduceIte];try rfl),by first | rfl | (simp -implicitDefEqProofs only[go_sem,seval,↓reduceIte];try rfl)⟩
 have q1:(k==1)=false:=by simpa using k1
 rw [if_neg (fun h=>k1 h.2)] at hP
 refine AW.seq_k fun K hK=>AW.regionT ⟨fun _ => .top,fun _ => .pure⟩ (by kernel_rfl) hG (by kernel_rfl) (by kernel_rfl) ?_
 simp -implicitDefEqProofs only[go_sem,seval,↓reduceIte,e5,rdO_K,hgk,encTk_K,q1]
 refine hK _ ?_
 clear hK K
 refine AW.condS (by simp -implicitDefEqProofs only[go_sem,seval,↓reduceIte];rfl) (fun h2=>?_) (fun h2=>?_)
 ·cases h2
 clear h2
 by_cases k2:k=2
 ·have q2:(k==2)=true:=by simpa using k2
  rw [if_pos ⟨c5,k2⟩] at hP
  refine AW.seq_k fun K hK=>AW.regionT ⟨fun _ => .top,fun _ => .pure⟩ (by kernel_rfl) hG (by kernel_rfl) (by kernel_rfl) ?_
  simp -implicitDefEqProofs only[go_sem,seval,↓reduceIte,e5,rdO_K,hgk,encTk_K,q2]
  refine hK _ ?_
  clear hK K
  refine AW.condS (by simp -implicitDefEqProofs only[go_sem,seval,↓reduceIte];rfl) (fun h2=>?_) (fun h2=>?_)
  rotate_left
  ·cases h2
  refine AW.seq_k fun K hK=>AW.region (by kernel_rfl) ?_
  simp -implicitDefEqProofs only[go_sem,seval,↓reduceIte,rdO_K]
  rw [← encXN_K ⟨2,0,t,0,0,0⟩]
  refine RdS.call hG (rLeaf_spec G hG sl g r hri hrn 2 0 t 0 0 0) (gx:=gx1) (by kernel_rfl) (fun F=>rfl) (by decide) (by first | rfl | (simp -implicitDefEqProofs only[go_sem,seval,↓reduceIte,List.map_cons,List.map_nil,encXN_K];try rfl)) (by first | rfl | (simp -implicitDefEqProofs only[go_sem,seval,↓reduceIte,List.map_cons,List.map_nil];try rfl)) (by first | rfl | (simp -implicitDefEqProofs only[go_sem,seval,↓reduceIte];try rfl)) (by first | rfl | (simp -implicitDefEqProofs only[go_sem,seval,↓reduceIte];try rfl)) fun gx2=>?_
  simp -implicitDefEqProofs only[go_sem,seval,↓reduceIte,sets]
  refine hK _ ?_
  clear hK K
  refine AW.ret ?_
  simp -implicitDefEqProofs only[go_sem,seval,↓reduceIte]
  refine endK_some ?_
  rw [hP]
  exact ⟨rfl,gx2,by first | rfl | (simp -implicitDefEqProofs only[go_sem,seval,↓reduceIte];try rfl),by first | rfl | (simp -implicitDefEqProofs only[go_sem,seval,↓reduceIte];try rfl)⟩
 have q2:(k==2)=false:=by simpa using k2
 rw [if_neg (fun h=>k2 h.2)] at hP
 refine AW.seq_k fun K hK=>AW.regionT ⟨fun _ => .top,fun _ => .pure⟩ (by kernel_rfl) hG (by kernel_rfl) (by kernel_rfl) ?_
 simp -implicitDefEqProofs only[go_sem,seval,↓reduceIte,e5,rdO_K,hgk,encTk_K,q2]
 refine hK _ ?_
 clear hK K
 refine AW.condS (by simp -implicitDefEqProofs only[go_sem,seval,↓reduceIte];rfl) (fun h2=>?_) (fun h2=>?_)
 ·cases h2
 refine AW.skip ?_
 simp -implicitDefEqProofs only[go_sem,seval,↓reduceIte]
 exact hK1 _ () hP (Weak.st (by simp -implicitDefEqProofs only[go_sem,seval,↓reduceIte];try rfl) (by simp -implicitDefEqProofs only[go_sem,seval,↓reduceIte,rdO_K];try rfl))
end Go.Hs
end

section
namespace Go.Hs
open Go.Proofs
set_option maxRecDepth 10000
def sgnR:List (List UInt8):=[[],[],[],[],[],[45],[110,111,116],[42],[100,105,118],[109,111,100],[43],[45],[60],[60,61],[62],[62,61],[61],[60,62],[97,110,100],[111,114],[120,111,114],[105,109,112,108,105,101,115]]
theorem sgnR_get (op:Nat) (h:5≤op) (h2:op≤21):sgnR[op]? = some (sgT op):=by
 have:((List.range 22).all fun op=>decide (op<5) || sgnR[op]? == some (sgT op))=true:=by decide +kernel
 have:=List.all_eq_true.1 this op (List.mem_range.2 (by omega))
 simp only [Bool.or_eq_true,decide_eq_true_eq,beq_iff_eq] at this
 rcases this with h | h
 ·omega
 ·exact h
theorem rSigns_spec (G:Nat→V) (hG:GOk G):Spec Tryz.prog G 92 [] hNone (fun v _=>v=encSl .new 1 V.str (.mk false sgnR)):=by
 refine Spec.of_code' 0 2 [.tmp 0] Tryz.func92 rfl rfl rfl rfl fun X=>?_
 refine AW.seq_k fun K hK=>AW.region (by kernel_rfl) ?_
 simp -implicitDefEqProofs only[go_sem,seval,↓reduceIte]
 refine hK _ ?_
 clear hK K
 refine AW.seq_k fun K hK=>AW.region (by kernel_rfl) ?_
 simp -implicitDefEqProofs only[go_sem,seval,↓reduceIte]
 intro g1
 refine hK _ ?_
 clear hK K
 refine AW.weak (Weak.stF (fun o=>o==1) (l:=[(0,encSl .new 1 V.str (.mk false sgnR))]) (m:=[]) ?_ trivial) ?_
 ·simp -implicitDefEqProofs only[go_sem,seval,↓reduceIte]
  exact Fz.sl (f:=V.str) (l:=sgnR) (m:=1) (g:=g1) (fz:=0) (c := .new) rfl (by simp -implicitDefEqProofs only[go_sem,seval,↓reduceIte];try rfl) (fun _=>rfl)
 refine AW.ret ?_
 simp -implicitDefEqProofs only[go_sem,seval,↓reduceIte]
 refine endK_some ?_
 rfl
def levL:List V:=[.int .i64 0,.int .i64 10,.int .i64 10,.int .i64 10,.int .i64 10,.int .i64 9,.int .i64 9,.int .i64 8,.int .i64 8,.int .i64 8,.int .i64 7,.int .i64 7,.int .i64 6,.int .i64 6,.int .i64 6,.int .i64 6,.int .i64 5,.int .i64 5,.int .i64 4,.int .i64 3,.int .i64 2,.int .i64 1,.int .i64 10]
theorem levL_get (op:Nat) (h:op<23):levL[op]? = some (.int .i64 (lvl op)):=by
 match op,h with
 | 0,_=>rfl
 | 1,_=>rfl
 | 2,_=>rfl
 | 3,_=>rfl
 | 4,_=>rfl
 | 5,_=>rfl
 | 6,_=>rfl
 | 7,_=>rfl
 | 8,_=>rfl
 | 9,_=>rfl
 | 10,_=>rfl
 | 11,_=>rfl
 | 12,_=>rfl
 | 13,_=>rfl
 | 14,_=>rfl
 | 15,_=>rfl
 | 16,_=>rfl
 | 17,_=>rfl
 | 18,_=>rfl
 | 19,_=>rfl
 | 20,_=>rfl
 | 21,_=>rfl
 | 22,_=>rfl
 | n+23,h=>exact absurd h (by omega)
theorem rLev_spec (G:Nat→V) (hG:GOk G) (op:Nat) (hop:op<23):Spec Tryz.prog G 89 [.int .u8 op] hNone (fun v _=>v = .int .i64 (lvl op)):=by
 refine Spec.of_code' 0 7 [.tmp 2] Tryz.func89 rfl rfl rfl rfl fun X=>?_
 have hg:=levL_get op hop
 unfold levL at hg
 have h23:(op:Int)<23:=by omega
 refine AW.seq_k fun K hK=>AW.region (by kernel_rfl) ?_
 simp -implicitDefEqProofs only[go_sem,seval,↓reduceIte]
 refine hK _ ?_
 clear hK K
 refine AW.seq_k fun K hK=>AW.region (by kernel_rfl) ?_
 simp -implicitDefEqProofs only[go_sem,seval,↓reduceIte,hg,h23,Int.natCast_nonneg,Nat.mul_one,Nat.zero_add]
 intro g3
 refine hK _ ?_
 clear hK K
 refine AW.ret ?_
 simp -implicitDefEqProofs only[go_sem,seval,↓reduceIte]
 refine endK_some ?_
 rfl
theorem two_at {t:List UInt8} {op:Nat} (h1:7≤op) (h2:op≤21):(t≠[]∧sgT op=t) ↔ ofI t 2=some op:=by
 constructor
 ·rintro ⟨_,rfl⟩
  exact (lvl_rng op h1 h2).2.2.1
 ·intro h
  exact ⟨(ofI_some h).choose_spec.2.2.2,sgT_of h⟩
theorem wu8R {z:Int} (h:0≤z) (h2:z<256):IntKind.u8.wrap z=z:=by
 unfold IntKind.wrap
 simp [IntKind.signed,IntKind.bits];omega
theorem rOfTwo_spec (G:Nat→V) (hG:GOk G) (sl:Sl Tk) (hT:TkOk sl.l) (g:Nat) (r:RS) (hr:r.i<1000000) (n:Int) :
  RdS 1012 [] G 81 [.int .i64 n] sl g r (.int .u8 (twoR sl.l n r.i)) r:=by
 intro gx
 refine Spec.of_code' 1000 32 [.tmp 4] Tryz.func81 rfl rfl rfl rfl fun X=>?_
 have hP:twoR sl.l n r.i=match ofI (nextP sl.l r.i).text 2 with | some op=>if lvl op=n then op else 0 | none=>0:=rfl
 generalize twoR sl.l n r.i=res at hP ⊢
 refine AW.seq_k fun K hK=>AW.region (by kernel_rfl) ?_
 simp -implicitDefEqProofs only[go_sem,seval,↓reduceIte]
 refine hK _ ?_
 clear hK K
 refine AW.seq_k fun K hK=>AW.region (by kernel_rfl) ?_
 simp -implicitDefEqProofs only[go_sem,seval,↓reduceIte]
 refine RdS.call hG (rNext_spec G hG sl hT g r hr) (gx:=gx) (by kernel_rfl) (fun F=>rfl) (by decide) (by first | rfl | (simp -implicitDefEqProofs only[go_sem,seval,↓reduceIte,List.map_cons,List.map_nil,encXN_K];try rfl)) (by first | rfl | (simp -implicitDefEqProofs only[go_sem,seval,↓reduceIte,List.map_cons,List.map_nil];try rfl)) (by first | rfl | (simp -implicitDefEqProofs only[go_sem,seval,↓reduceIte];try rfl)) (by first | rfl | (simp -implicitDefEqProofs only[go_sem,seval,↓reduceIte];try rfl)) fun gx1=>?_
 simp -implicitDefEqProofs only[go_sem,seval,↓reduceIte,sets]
 refine hK _ ?_
 clear hK K
 generalize (nextP sl.l r.i).text=t at hP ⊢
 refine AW.seq_k fun K hK=>AW.region (by kernel_rfl) ?_
 simp -implicitDefEqProofs only[go_sem,seval,↓reduceIte]
 refine CallA.pure hG (by kernel_rfl) ?_
 simp -implicitDefEqProofs only[go_sem,seval,↓reduceIte,List.map_nil]
 refine (rSigns_spec G hG).mono ?_
 rintro _ _ rfl
 simp -implicitDefEqProofs only[go_sem,seval,↓reduceIte]
 refine hK _ ?_
 clear hK K
 refine AW.seq_k fun K1 hK1=>?_
 refine AW.seq_k fun K hK=>AW.region (by kernel_rfl) ?_
 simp -implicitDefEqProofs only[go_sem,seval,↓reduceIte]
 refine hK _ ?_
 clear hK K
 refine AW.block ?_
 refine AW.for 22 (fun k (_:Unit)=>st [(0,.ptr 8 g 0),(1,.int .i64 n),(5,.str t),(6,encSl .new 1 V.str (.mk false sgnR)),(7,.int .u8 k)] [(8,rdO 1012 [] sl g gx1 r),(1012,ndO gx1 r.nodes)])
  (fun k _=>7≤k∧∀ j,7≤j→j<k→¬ (ofI t 2=some j∧lvl j=n)) 7 () (by decide) ⟨Nat.le_refl _,fun j h1 h2=>by omega⟩
  (Weak.st (by simp -implicitDefEqProofs only[go_sem,seval,↓reduceIte];try rfl) (by simp -implicitDefEqProofs only[go_sem,seval,↓reduceIte];try rfl)) ?_
 rintro k _ hk ⟨hk7,hR⟩ L3 hL3
 refine AW.seq_k fun K4 hK4=>?_
 refine AW.seq_k fun K hK=>AW.region (by kernel_rfl) ?_
 simp -implicitDefEqProofs only[go_sem,seval,↓reduceIte]
 refine hK _ ?_
 clear hK K
 refine AW.condS (by simp -implicitDefEqProofs only[go_sem,seval,↓reduceIte];rfl) (fun h12=>?_) (fun h12=>?_)
 ·have hk1:k≤21:=by have h12:decide ((k:Int)≤21)=true:=h12;simp at h12;omega
  have hg:=sgnR_get k (by omega) hk1
  have hnext:¬ (ofI t 2=some k∧lvl k=n)→∀ j,7≤j→j<k+1→¬ (ofI t 2=some j∧lvl j=n):=by
   intro h j h1 h2
   by_cases q:j=k
   ·subst q;exact h
   ·exact hR j h1 (by omega)
  have hwr:IntKind.u8.wrap ((k:Int)+1)=((k+1:Nat):Int):=by rw [wu8R (by omega) (by omega)];omega
  refine AW.skip ?_
  simp -implicitDefEqProofs only[go_sem,seval,↓reduceIte]
  refine hK4 _ ?_
  refine AW.seq_k fun K5 hK5=>?_
  refine AW.block ?_
  by_cases ht:t=[]
  ·have e1:(t==[])=true:=by rw [ht];rfl
   refine AW.seq_k fun K hK=>AW.region (by kernel_rfl) ?_
   simp -implicitDefEqProofs only[go_sem,seval,↓reduceIte,e1]
   refine hK _ ?_
   clear hK K
   refine AW.condS (by simp -implicitDefEqProofs only[go_sem,seval,↓reduceIte];rfl) (fun h30=>?_) (fun h30=>?_)
   ·cases h30
   refine AW.skip ?_
   simp -implicitDefEqProofs only[go_sem,seval,↓reduceIte]
   refine hK5 _ ?_
   refine AW.region (by kernel_rfl) ?_
   simp -implicitDefEqProofs only[go_sem,seval,↓reduceIte,hwr]
   exact hL3 _ ⟨by omega,(),⟨by omega,hnext (fun h=>(two_at hk7 hk1).2 h.1 |>.1 ht)⟩,Weak.st (by simp -implicitDefEqProofs only[go_sem,seval,↓reduceIte];try rfl) (by simp -implicitDefEqProofs only[go_sem,seval,↓reduceIte];try rfl)⟩
  have e1:(t==[])=false:=by simpa using ht
  by_cases hs:sgT k=t
  rotate_left
  ·have e2:(sgT k==t)=false:=by simpa using hs
   refine AW.seq_k fun K hK=>AW.region (by kernel_rfl) ?_
   simp -implicitDefEqProofs only[go_sem,seval,↓reduceIte,e1,hg,e2]
   refine hK _ ?_
   clear hK K
   refine AW.condS (by simp -implicitDefEqProofs only[go_sem,seval,↓reduceIte];rfl) (fun h30=>?_) (fun h30=>?_)
   ·cases h30
   refine AW.skip ?_
   simp -implicitDefEqProofs only[go_sem,seval,↓reduceIte]
   refine hK5 _ ?_
   refine AW.region (by kernel_rfl) ?_
   simp -implicitDefEqProofs only[go_sem,seval,↓reduceIte,hwr]
   exact hL3 _ ⟨by omega,(),⟨by omega,hnext (fun h=>hs ((two_at hk7 hk1).2 h.1).2)⟩,Weak.st (by simp -implicitDefEqProofs only[go_sem,seval,↓reduceIte];try rfl) (by simp -implicitDefEqProofs only[go_sem,seval,↓reduceIte];try rfl)⟩
  have e2:(sgT k==t)=true:=by simpa using hs
  have ho:=(two_at hk7 hk1).1 ⟨ht,hs⟩
  refine AW.seq_k fun K hK=>AW.region (by kernel_rfl) ?_
  simp -implicitDefEqProofs only[go_sem,seval,↓reduceIte,e1,hg,e2]
  refine CallA.pure hG (by kernel_rfl) ?_
  simp -implicitDefEqProofs only[go_sem,seval,↓reduceIte]
  refine (rLev_spec G hG k (by omega)).mono ?_
  rintro _ _ rfl
  simp -implicitDefEqProofs only[go_sem,seval,↓reduceIte]
  refine hK _ ?_
  clear hK K
  rw [ho] at hP
  simp only at hP
  by_cases hl:lvl k=n
  ·rw [if_pos hl] at hP
   have e3:(lvl k==n)=true:=by simpa using hl
   rw [e3]
   refine AW.condS (by simp -implicitDefEqProofs only[go_sem,seval,↓reduceIte];rfl) (fun h30=>?_) (fun h30=>?_)
   rotate_left
   ·cases h30
   refine AW.seq_k fun K hK=>AW.region (by kernel_rfl) ?_
   simp -implicitDefEqProofs only[go_sem,seval,↓reduceIte]
   refine hK _ ?_
   clear hK K
   refine AW.ret ?_
   simp -implicitDefEqProofs only[go_sem,seval,↓reduceIte]
   refine endK_some ?_
   rw [hP]
   exact ⟨rfl,gx1,by first | rfl | (simp -implicitDefEqProofs only[go_sem,seval,↓reduceIte];try rfl),by first | rfl | (simp -implicitDefEqProofs only[go_sem,seval,↓reduceIte];try rfl)⟩
  ·have e3:(lvl k==n)=false:=by simpa using hl
   rw [e3]
   refine AW.condS (by simp -implicitDefEqProofs only[go_sem,seval,↓reduceIte];rfl) (fun h30=>?_) (fun h30=>?_)
   ·cases h30
   refine AW.skip ?_
   simp -implicitDefEqProofs only[go_sem,seval,↓reduceIte]
   refine hK5 _ ?_
   refine AW.region (by kernel_rfl) ?_
   simp -implicitDefEqProofs only[go_sem,seval,↓reduceIte,hwr]
   exact hL3 _ ⟨by omega,(),⟨by omega,hnext (fun h=>hl h.2)⟩,Weak.st (by simp -implicitDefEqProofs only[go_sem,seval,↓reduceIte];try rfl) (by simp -implicitDefEqProofs only[go_sem,seval,↓reduceIte];try rfl)⟩
 ·have hk1:k=22:=by have h12:decide ((k:Int)≤21)=false:=h12;simp at h12;omega
  refine AW.exit ?_
  simp -implicitDefEqProofs only[go_sem,seval,↓reduceIte]
  refine hK1 _ ?_
  have hP:res=0:=by
   rw [hP]
   cases ho:ofI t 2 with
   | none=>rfl
   | some op =>
    simp only
    rw [if_neg]
    intro hl
    have:=ofI_two ho
    exact hR op this.1 (by omega) ⟨ho,hl⟩
  refine AW.seq_k fun K hK=>AW.region (by kernel_rfl) ?_
  simp -implicitDefEqProofs only[go_sem,seval,↓reduceIte]
  refine hK _ ?_
  clear hK K
  refine AW.ret ?_
  simp -implicitDefEqProofs only[go_sem,seval,↓reduceIte]
  refine endK_some ?_
  rw [hP]
  exact ⟨rfl,gx1,by first | rfl | (simp -implicitDefEqProofs only[go_sem,seval,↓reduceIte];try rfl),by first | rfl | (simp -implicitDefEqProofs only[go_sem,seval,↓reduceIte];try rfl)⟩
end Go.Hs
end

section
namespace Go.Hs
open Go.Proofs
set_option maxRecDepth 10000
theorem nil_of {n:Int} (h:decide (n=0)=true):dg n.natAbs=[]:=by
 have:=of_decide_eq_true h
 subst this;rfl
theorem len_of {n:Int} (hn:InK .i64 n):(dg n.natAbs).length<1000000:=by
 have:=(inK_iff n).1 hn
 have:=dg_len (n:=n.natAbs) (k:=20) (by omega)
 omega
end Go.Hs
end

section
namespace Go.Hs
open Go.Proofs
set_option maxRecDepth 10000
def chars (l:List Nat):List UInt8:=(l.map fun d=>UInt8.ofNat (48+d)).reverse
theorem decDigits_dg (u:Nat) (h:0<u):Lib.decDigits u=chars (dg u):=by
 induction u using Nat.strongRecOn with
 | _ u ih =>
  rw [Lib.decDigits,dg_pos h]
  by_cases h1:u<10
  ·rw [dif_pos h1,show u / 10=0 by omega,dg_zero,Nat.mod_eq_of_lt h1]
   rfl
  ·rw [dif_neg h1,ih (u / 10) (by omega) (by omega)]
   simp [chars]
theorem putR_dg (n:Int):putR n=if n=0 then [48] else if n<0 then 45::chars (dg n.natAbs) else chars (dg n.natAbs):=by
 unfold putR Lib.itoa
 by_cases h0:n=0
 ·subst h0
  simp
  rw [Lib.decDigits]
  simp
 ·rw [if_neg h0]
  by_cases h1:n<0
  ·rw [if_pos h1,if_pos h1,decDigits_dg _ (by omega)]
  ·rw [if_neg h1,if_neg h1,show n.toNat=n.natAbs by omega,decDigits_dg _ (by omega)]
theorem chars_nil {l:List Nat}:chars l=[] ↔ l=[]:=by simp [chars]
theorem chars_len (l:List Nat):(chars l).length=l.length:=by simp [chars]
theorem wu8 {n:Int} (h1:0≤n) (h2:n≤255):IntKind.u8.wrap n=n:=by
 unfold IntKind.wrap
 simp [IntKind.signed,IntKind.bits]
 omega
theorem rPut_spec (G:Nat→V) (hG:GOk G) (n:Int) (hn:InK .i64 n):Spec Tryz.prog G 91 [.int .i64 n] hNone (fun v _=>v = .str (putR n)):=by
 have hn':=(inK_iff n).1 hn
 have hnl:=nil_of (n:=n)
 have hll:=len_of hn
 have hdg:=dig_dg n.natAbs
 have hn0:dg n.natAbs=[] ↔ n=0:=by rw [dg_ne];omega
 rw [putR_dg]
 refine Spec.of_code' 0 33 [.tmp 2] Tryz.func91 rfl rfl rfl rfl fun X=>?_
 refine AW.seq_k fun K hK=>AW.region (by kernel_rfl) ?_
 simp -implicitDefEqProofs only[go_sem,seval,↓reduceIte]
 refine hK _ ?_
 clear hK K
 refine AW.seq_k fun K hK=>AW.region (by kernel_rfl) ?_
 simp -implicitDefEqProofs only[go_sem,seval,↓reduceIte]
 refine CallA.pure hG (by kernel_rfl) ?_
 simp -implicitDefEqProofs only[go_sem,seval,↓reduceIte]
 refine (rOf_spec G hG n hn).mono ?_
 rintro _ _ rfl
 simp -implicitDefEqProofs only[go_sem,seval,↓reduceIte,encLong]
 intro g3
 refine hK _ ?_
 clear hK K
 generalize decide (n=0)=nl at hnl
 generalize hl:dg n.natAbs=l at hnl hll hdg hn0
 have hsl:=slD_l hnl
 refine AW.seq_k fun K hK=>AW.region (by kernel_rfl) ?_
 simp -implicitDefEqProofs only[go_sem,seval,↓reduceIte]
 refine hK _ ?_
 clear hK K
 refine AW.seq_k fun K1 hK1=>?_
 refine AW.seq_k fun K hK=>AW.region (by kernel_rfl) ?_
 simp -implicitDefEqProofs only[go_sem,seval,↓reduceIte]
 refine hK _ ?_
 clear hK K
 refine AW.block ?_
 refine AW.for l.length (fun k (_:Unit)=>st [(3,.ptr 3 g3 0),(4,.str (chars (l.take k))),(5,.int .i64 k)] [(3,.cells .new g3 0 [encSl .new 1 (V.int .i64) (slD nl l),.bool (decide (n<0))])]) (fun k _=>True) 0 () (Nat.zero_le _) trivial
  (Weak.st (by simp -implicitDefEqProofs only[go_sem,seval,↓reduceIte];try rfl) (by simp -implicitDefEqProofs only[go_sem,seval,↓reduceIte];try rfl)) ?_
 intro k _ hk _ L2 hL2
 refine AW.seq_k fun K3 hK3=>?_
 refine AW.seq_k fun K hK=>AW.region (by kernel_rfl) ?_
 simp -implicitDefEqProofs only[go_sem,seval,↓reduceIte,hsl,ints_len]
 refine hK _ ?_
 clear hK K
 refine AW.condS (by simp -implicitDefEqProofs only[go_sem,seval,↓reduceIte];rfl) (fun h4=>?_) (fun h4=>?_)
 ·have hk1:k<l.length:=by have:=of_decide_eq_true h4;omega
  refine AW.skip ?_
  simp -implicitDefEqProofs only[go_sem,seval,↓reduceIte]
  refine hK3 _ ?_
  have g2:=ints_get_some (l:=l) (k:=k) hk1
  have h9:=getD_lt hdg k
  have htk:l.take (k+1)=l.take k++[l.getD k 0]:=by rw [List.take_succ_eq_append_getElem hk1,List.getD_eq_getElem?_getD,List.getElem?_eq_getElem hk1];rfl
  generalize l.getD k 0=d at g2 h9 htk
  have hch:chars (l.take (k+1))=UInt8.ofNat (48+d)::chars (l.take k):=by rw [htk];simp [chars]
  have hw1:IntKind.i64.wrap (48+(d:Int))=48+(d:Int):=w64 (by omega) (by omega)
  have hw2:IntKind.u8.wrap (48+(d:Int))=48+(d:Int):=wu8 (by omega) (by omega)
  have hb:UInt8.ofNat (48+(d:Int)).toNat=UInt8.ofNat (48+d):=congrArg _ (by omega)
  have hlen:¬ (((1+(chars (l.take k)).length:Nat):Int) > IntKind.i64.max):=by
   rw [show IntKind.i64.max=9223372036854775807 from rfl,chars_len,List.length_take];omega
  refine AW.seq_k fun K5 hK5=>?_
  refine AW.block ?_
  refine AW.regionB 8 23 (e:=5) (by kernel_rfl) rfl Tryz.underlying28 Tryz.underlying5 Tryz.underlying9 ?_
  simp -implicitDefEqProofs only[go_sem,seval,↓reduceIte,List.take_succ_cons,List.take_zero,hsl,g2,hw1,hw2]
  intro g22
  refine ⟨_,_,_,_,[48+(d:Int)],rfl,rfl,?_⟩
  simp -implicitDefEqProofs only[go_sem,seval,↓reduceIte,List.drop_succ_cons,List.drop_zero,List.map_cons,List.map_nil,hb,hlen]
  refine hK5 _ ?_
  refine AW.region (by kernel_rfl) ?_
  simp -implicitDefEqProofs only[go_sem,seval,↓reduceIte]
  refine hL2 _ ⟨hk1,(),trivial,Weak.st (by rw [hch];simp -implicitDefEqProofs only[go_sem,seval,↓reduceIte];exact congrArg _ (by rw [w64 (by omega) (by omega)];omega)) (by simp -implicitDefEqProofs only[go_sem,seval,↓reduceIte];try rfl)⟩
 ·have hk1:k=l.length:=by have:=of_decide_eq_false h4;omega
  subst hk1
  refine AW.exit ?_
  simp -implicitDefEqProofs only[go_sem,seval,↓reduceIte]
  refine hK1 _ ?_
  rw [List.take_length]
  have hz:(chars l==[])=decide (n=0):=by
   by_cases h:n=0
   ·rw [hn0.2 h];simp [h,chars]
   ·have:¬ l=[]:=fun e=>h (hn0.1 e)
    simp [h,chars_nil,this]
  refine AW.seq_k fun K6 hK6=>?_
  refine AW.seq_k fun K hK=>AW.region (by kernel_rfl) ?_
  simp -implicitDefEqProofs only[go_sem,seval,↓reduceIte,hz]
  refine hK _ ?_
  clear hK K
  refine AW.condS (by simp -implicitDefEqProofs only[go_sem,seval,↓reduceIte];rfl) (fun h7=>?_) (fun h7=>?_)
  ·have h7:=of_decide_eq_true h7
   refine AW.seq_k fun K hK=>AW.region (by kernel_rfl) ?_
   simp -implicitDefEqProofs only[go_sem,seval,↓reduceIte]
   refine hK _ ?_
   clear hK K
   refine AW.ret ?_
   simp -implicitDefEqProofs only[go_sem,seval,↓reduceIte]
   refine endK_some ?_
   rw [if_pos h7]
  ·have h7:=of_decide_eq_false h7
   refine AW.skip ?_
   simp -implicitDefEqProofs only[go_sem,seval,↓reduceIte]
   refine hK6 _ ?_
   refine AW.seq_k fun K8 hK8=>?_
   refine AW.seq_k fun K hK=>AW.region (by kernel_rfl) ?_
   simp -implicitDefEqProofs only[go_sem,seval,↓reduceIte]
   refine hK _ ?_
   clear hK K
   refine AW.condS (by simp -implicitDefEqProofs only[go_sem,seval,↓reduceIte];rfl) (fun h8=>?_) (fun h8=>?_)
   ·have h8:=of_decide_eq_true h8
    have hlen:¬ (((1+(chars l).length:Nat):Int) > IntKind.i64.max):=by
     rw [show IntKind.i64.max=9223372036854775807 from rfl,chars_len];omega
    refine AW.seq_k fun K hK=>AW.region (by kernel_rfl) ?_
    simp -implicitDefEqProofs only[go_sem,seval,↓reduceIte,hlen]
    refine hK _ ?_
    clear hK K
    refine AW.ret ?_
    simp -implicitDefEqProofs only[go_sem,seval,↓reduceIte]
    refine endK_some ?_
    rw [if_neg h7,if_pos h8]
   ·have h8:=of_decide_eq_false h8
    refine AW.skip ?_
    simp -implicitDefEqProofs only[go_sem,seval,↓reduceIte]
    refine hK8 _ ?_
    refine AW.seq_k fun K hK=>AW.region (by kernel_rfl) ?_
    simp -implicitDefEqProofs only[go_sem,seval,↓reduceIte]
    refine hK _ ?_
    clear hK K
    refine AW.ret ?_
    simp -implicitDefEqProofs only[go_sem,seval,↓reduceIte]
    refine endK_some ?_
    rw [if_neg h7,if_neg h8]
end Go.Hs
end

section
namespace Go.Hs
open Go.Proofs
set_option maxRecDepth 10000
theorem trimLeft_spec (G:Nat→V) (s:List UInt8):Spec Tryz.prog G 128 [.str s,.str [48]] hNone (fun v _=>v = .str (s.dropWhile (· == 48))):=by
 refine Spec.of_calls fun X cargs _ _ hA=>?_
 obtain ⟨x,y,rfl,hx,hy⟩:=hA.two
 obtain ⟨s',rfl,rfl⟩:=hx.str_inv
 obtain ⟨p',rfl,hp⟩:=hy.str_inv
 obtain rfl:p'=⟨#[48]⟩:=by
  obtain ⟨⟨l⟩⟩:=p'
  simp at hp
  rw [hp]
 refine (show Calls Tryz.prog 128 _ _ _ from Any.strings_TrimLeft_one Tryz.laysTL s' 48 (by decide) X.w).mono ?_
 rintro e w' ⟨rfl,rfl⟩
 exact ⟨_,_,rfl,RowKit.Below.refl _ _,.str _ _ rfl,by simp [Lib.trimLeftB]⟩
theorem xLeaf_spec (G:Nat→V) (hG:GOk G) (sl:Sl Tk) (g:Nat) (r:RS) (hi:r.i<1000000) (hr:r.nodes.length<1000000) (op num:Int) (name:List UInt8) (x y z:Int) :
  RdS 1031 [.func (.func 56) [] []] G 110 [encXN ⟨op,num,name,x,y,z⟩] sl g r (.bool true) (leafP r op num name).2:=by
 intro gx
 refine Spec.of_code' 1000 15 [.tmp 4] Tryz.func110 rfl rfl rfl rfl fun X=>?_
 have hw:IntKind.i64.wrap ((r.i:Int)+1)=((r.i+1:Nat):Int):=by rw [w64 (by omega) (by omega)];omega
 simp only [sets,rdO_K,encXN_K]
 refine AW.seq_k fun K hK=>AW.region (by kernel_rfl) ?_
 simp -implicitDefEqProofs only[go_sem,seval,↓reduceIte]
 intro g3
 refine hK _ ?_
 clear hK K
 refine AW.seq_k fun K hK=>AW.region (by kernel_rfl) ?_
 simp -implicitDefEqProofs only[go_sem,seval,↓reduceIte,hw]
 refine hK _ ?_
 clear hK K
 refine AW.seq_k fun K hK=>AW.region (by kernel_rfl) ?_
 simp -implicitDefEqProofs only[go_sem,seval,↓reduceIte]
 rw [← encXN_K ⟨op,num,name,x,y,z⟩]
 refine RdS.call hG (xPut_spec G hG sl g r.adv hr ⟨op,num,name,x,y,z⟩ .any .nil (by decide)) (gx:=gx) (by kernel_rfl) (fun F=>rfl) (by decide) (by first | rfl | (simp -implicitDefEqProofs only[go_sem,seval,↓reduceIte,List.map_cons,List.map_nil,encXN_K];try rfl)) (by first | rfl | (simp -implicitDefEqProofs only[go_sem,seval,↓reduceIte,List.map_cons,List.map_nil];try rfl)) (by first | rfl | (simp -implicitDefEqProofs only[go_sem,seval,↓reduceIte];try rfl)) (by first | rfl | (simp -implicitDefEqProofs only[go_sem,seval,↓reduceIte];try rfl)) fun gx'=>?_
 simp -implicitDefEqProofs only[go_sem,seval,↓reduceIte,sets]
 refine hK _ ?_
 clear hK K
 refine AW.ret ?_
 simp -implicitDefEqProofs only[go_sem,seval,↓reduceIte]
 refine endK_some ?_
 exact ⟨rfl,gx',by simp -implicitDefEqProofs only[go_sem,seval,↓reduceIte];rfl,by simp -implicitDefEqProofs only[go_sem,seval,↓reduceIte];rfl⟩
theorem xEat_spec (G:Nat→V) (hE:GExp G) (sl:Sl Tk) (hT:TkOk sl.l) (g:Nat) (r:RS) (hi:r.i<1000000) (w:List UInt8) :
  RdS 1031 [.func (.func 56) [] []] G 111 [.str w] sl g r (.bool (eatP sl.l w r).1) (eatP sl.l w r).2:=by
 have hG:=hE.ok
 intro gx
 refine Spec.of_code' 1000 27 [.tmp 4] Tryz.func111 rfl rfl rfl rfl fun X=>?_
 have hw:IntKind.i64.wrap ((r.i:Int)+1)=((r.i+1:Nat):Int):=by rw [w64 (by omega) (by omega)];omega
 refine AW.seq_k fun K hK=>AW.region (by kernel_rfl) ?_
 simp -implicitDefEqProofs only[go_sem,seval,↓reduceIte]
 refine hK _ ?_
 clear hK K
 refine AW.seq_k fun K1 hK1=>?_
 refine AW.seq_k fun K hK=>AW.region (by kernel_rfl) ?_
 simp -implicitDefEqProofs only[go_sem,seval,↓reduceIte]
 refine RdS.call hG (xNext_spec G hE sl hT g r hi) (gx:=gx) (by kernel_rfl) (fun F=>rfl) (by decide) (by first | rfl | (simp -implicitDefEqProofs only[go_sem,seval,↓reduceIte,List.map_cons,List.map_nil,encXN_K];try rfl)) (by first | rfl | (simp -implicitDefEqProofs only[go_sem,seval,↓reduceIte,List.map_cons,List.map_nil];try rfl)) (by first | rfl | (simp -implicitDefEqProofs only[go_sem,seval,↓reduceIte];try rfl)) (by first | rfl | (simp -implicitDefEqProofs only[go_sem,seval,↓reduceIte];try rfl)) fun gx'=>?_
 simp -implicitDefEqProofs only[go_sem,seval,↓reduceIte,sets]
 simp -implicitDefEqProofs only[go_sem,seval,↓reduceIte,encTk_K]
 intro g5
 refine hK _ ?_
 clear hK K
 have hP:eatP sl.l w r=if (nextP sl.l r.i).kind=0∨(nextP sl.l r.i).text≠w then (false,r.err 80) else (true,r.adv):=rfl
 generalize nextP sl.l r.i=t at hP ⊢
 obtain ⟨k,t,p⟩:=t
 simp only at hP
 by_cases hk:k=0
 ·have e1:(k==0)=true:=by simpa using hk
  rw [if_pos (.inl hk)] at hP
  refine AW.seq_k fun K hK=>AW.region (by kernel_rfl) ?_
  simp -implicitDefEqProofs only[go_sem,seval,↓reduceIte,e1]
  refine hK _ ?_
  clear hK K
  refine AW.condS (by simp -implicitDefEqProofs only[go_sem,seval,↓reduceIte];rfl) (fun h2=>?_) (fun h2=>?_)
  ·refine AW.seq_k fun K hK=>AW.region (by kernel_rfl) ?_
   simp -implicitDefEqProofs only[go_sem,seval,↓reduceIte,rdO_K]
   refine hK _ ?_
   clear hK K
   refine AW.seq_k fun K hK=>AW.region (by kernel_rfl) ?_
   simp -implicitDefEqProofs only[go_sem,seval,↓reduceIte]
   refine hK _ ?_
   clear hK K
   refine AW.ret ?_
   simp -implicitDefEqProofs only[go_sem,seval,↓reduceIte]
   refine endK_some ?_
   rw [hP]
   exact ⟨rfl,gx',by simp -implicitDefEqProofs only[go_sem,seval,↓reduceIte];rfl,by simp -implicitDefEqProofs only[go_sem,seval,↓reduceIte];rfl⟩
  ·cases h2
 ·have e1:(k==0)=false:=by simpa using hk
  by_cases ht:t=w
  ·have e2:(t==w)=true:=by simpa using ht
   rw [if_neg (by rintro (h | h);exact hk h;exact h ht)] at hP
   refine AW.seq_k fun K hK=>AW.region (by kernel_rfl) ?_
   simp -implicitDefEqProofs only[go_sem,seval,↓reduceIte,e1,bne,e2]
   refine hK _ ?_
   clear hK K
   refine AW.condS (by simp -implicitDefEqProofs only[go_sem,seval,↓reduceIte];rfl) (fun h2=>?_) (fun h2=>?_)
   ·cases h2
   ·refine AW.skip ?_
    simp -implicitDefEqProofs only[go_sem,seval,↓reduceIte]
    refine hK1 _ ?_
    refine AW.seq_k fun K hK=>AW.region (by kernel_rfl) ?_
    simp -implicitDefEqProofs only[go_sem,seval,↓reduceIte,rdO_K,hw]
    refine hK _ ?_
    clear hK K
    refine AW.seq_k fun K hK=>AW.region (by kernel_rfl) ?_
    simp -implicitDefEqProofs only[go_sem,seval,↓reduceIte]
    refine hK _ ?_
    clear hK K
    refine AW.ret ?_
    simp -implicitDefEqProofs only[go_sem,seval,↓reduceIte]
    refine endK_some ?_
    rw [hP]
    exact ⟨rfl,gx',by simp -implicitDefEqProofs only[go_sem,seval,↓reduceIte];rfl,by simp -implicitDefEqProofs only[go_sem,seval,↓reduceIte];rfl⟩
  ·have e2:(t==w)=false:=by simpa using ht
   rw [if_pos (.inr ht)] at hP
   refine AW.seq_k fun K hK=>AW.region (by kernel_rfl) ?_
   simp -implicitDefEqProofs only[go_sem,seval,↓reduceIte,e1,bne,e2]
   refine hK _ ?_
   clear hK K
   refine AW.condS (by simp -implicitDefEqProofs only[go_sem,seval,↓reduceIte];rfl) (fun h2=>?_) (fun h2=>?_)
   ·refine AW.seq_k fun K hK=>AW.region (by kernel_rfl) ?_
    simp -implicitDefEqProofs only[go_sem,seval,↓reduceIte,rdO_K]
    refine hK _ ?_
    clear hK K
    refine AW.seq_k fun K hK=>AW.region (by kernel_rfl) ?_
    simp -implicitDefEqProofs only[go_sem,seval,↓reduceIte]
    refine hK _ ?_
    clear hK K
    refine AW.ret ?_
    simp -implicitDefEqProofs only[go_sem,seval,↓reduceIte]
    refine endK_some ?_
    rw [hP]
    exact ⟨rfl,gx',by simp -implicitDefEqProofs only[go_sem,seval,↓reduceIte];rfl,by simp -implicitDefEqProofs only[go_sem,seval,↓reduceIte];rfl⟩
   ·cases h2
theorem trim0_len (t:List UInt8):(trim0 t).length≤t.length+1:=by
 unfold trim0
 split
 ·simp
 ·exact Nat.le_trans ((List.dropWhile_sublist _).length_le) (Nat.le_succ _)
theorem xNumber_spec (G:Nat→V) (hE:GExp G) (sl:Sl Tk) (g:Nat) (r:RS) (hi:r.i<1000000) (hr:r.nodes.length<1000000) (t:List UInt8) (ht:t.length<100000) :
  RdS 1031 [.func (.func 56) [] []] G 109 [.str t] sl g r (.bool (numberP r t).1) (numberP r t).2:=by
 have hG:=hE.ok
 intro gx
 refine Spec.of_code' 1000 26 [.tmp 4] Tryz.func109 rfl rfl rfl rfl fun X=>?_
 refine AW.seq_k fun K hK=>AW.region (by kernel_rfl) ?_
 simp -implicitDefEqProofs only[go_sem,seval,↓reduceIte]
 refine hK _ ?_
 clear hK K
 refine AW.seq_k fun K hK=>AW.region (by kernel_rfl) ?_
 simp -implicitDefEqProofs only[go_sem,seval,↓reduceIte]
 refine CallA.pure hG (by kernel_rfl) ?_
 simp -implicitDefEqProofs only[go_sem,seval,↓reduceIte]
 refine (trimLeft_spec G t).mono ?_
 rintro _ _ rfl
 simp -implicitDefEqProofs only[go_sem,seval,↓reduceIte]
 refine hK _ ?_
 clear hK K
 have hT0:trim0 t=if t.dropWhile (· == 48)=[] then [48] else t.dropWhile (· == 48):=rfl
 have hP:numberP r t=if (parseR (trim0 t)).2≠0 then (false,r.err (parseR (trim0 t)).2) else leafP r 1 (parseR (trim0 t)).1 []:=rfl
 have hl:=trim0_len t
 refine AW.seqJ (fun (_:Unit)=>st [(0,.ptr 8 g 0),(1,.str (trim0 t))] [(8,rdO 1031 [.func (.func 56) [] []] sl g gx r),(1031,ndO gx r.nodes)]) (fun _=>True) (fun K1 hK1=>?_) ?_
 ·rw [hT0] at hK1
  refine AW.seq_k fun K hK=>AW.region (by kernel_rfl) ?_
  simp -implicitDefEqProofs only[go_sem,seval,↓reduceIte]
  refine hK _ ?_
  clear hK K
  refine AW.condS (by simp -implicitDefEqProofs only[go_sem,seval,↓reduceIte];rfl) (fun h2=>?_) (fun h2=>?_)
  ·have h2:t.dropWhile (· == 48)=[]:=by simpa using h2
   rw [if_pos h2] at hK1
   refine AW.region (by kernel_rfl) ?_
   simp -implicitDefEqProofs only[go_sem,seval,↓reduceIte]
   exact hK1 _ () trivial (Weak.st (by simp -implicitDefEqProofs only[go_sem,seval,↓reduceIte]) (by simp -implicitDefEqProofs only[go_sem,seval,↓reduceIte,sets]))
  ·have h2:¬ t.dropWhile (· == 48)=[]:=by simpa using h2
   rw [if_neg h2] at hK1
   refine AW.skip ?_
   simp -implicitDefEqProofs only[go_sem,seval,↓reduceIte]
   exact hK1 _ () trivial (Weak.st (by simp -implicitDefEqProofs only[go_sem,seval,↓reduceIte]) (by simp -implicitDefEqProofs only[go_sem,seval,↓reduceIte,sets]))
 intro _ _
 generalize trim0 t=s at hl hP ⊢
 refine AW.seq_k fun K hK=>AW.region (by kernel_rfl) ?_
 simp -implicitDefEqProofs only[go_sem,seval,↓reduceIte]
 refine CallA.pure hG (by kernel_rfl) ?_
 simp -implicitDefEqProofs only[go_sem,seval,↓reduceIte]
 refine (nParse_spec G hE.toGNum s (by omega)).mono ?_
 rintro _ _ rfl
 generalize parseR s=q at hP ⊢
 obtain ⟨n,e⟩:=q
 simp only at hP
 simp -implicitDefEqProofs only[go_sem,seval,↓reduceIte,encR]
 refine hK _ ?_
 clear hK K
 refine AW.seq_k fun K3 hK3=>?_
 by_cases he:e=0
 ·have e1:(e==0)=true:=by simpa using he
  rw [if_neg (show ¬ e≠0 by simpa using he)] at hP
  refine AW.seq_k fun K hK=>AW.region (by kernel_rfl) ?_
  simp -implicitDefEqProofs only[go_sem,seval,↓reduceIte,bne,e1]
  refine hK _ ?_
  clear hK K
  refine AW.condS (by simp -implicitDefEqProofs only[go_sem,seval,↓reduceIte];rfl) (fun h4=>?_) (fun h4=>?_)
  ·cases h4
  ·refine AW.skip ?_
   simp -implicitDefEqProofs only[go_sem,seval,↓reduceIte]
   refine hK3 _ ?_
   refine AW.seq_k fun K hK=>AW.region (by kernel_rfl) ?_
   simp -implicitDefEqProofs only[go_sem,seval,↓reduceIte]
   rw [← encXN_K ⟨1,n,[],0,0,0⟩]
   refine RdS.call hG (xLeaf_spec G hG sl g r hi hr 1 n [] 0 0 0) (gx:=gx) (by kernel_rfl) (fun F=>rfl) (by decide) (by first | rfl | (simp -implicitDefEqProofs only[go_sem,seval,↓reduceIte,List.map_cons,List.map_nil,encXN_K];try rfl)) (by first | rfl | (simp -implicitDefEqProofs only[go_sem,seval,↓reduceIte,List.map_cons,List.map_nil];try rfl)) (by first | rfl | (simp -implicitDefEqProofs only[go_sem,seval,↓reduceIte];try rfl)) (by first | rfl | (simp -implicitDefEqProofs only[go_sem,seval,↓reduceIte];try rfl)) fun gx'=>?_
   simp -implicitDefEqProofs only[go_sem,seval,↓reduceIte,sets]
   refine hK _ ?_
   clear hK K
   refine AW.ret ?_
   simp -implicitDefEqProofs only[go_sem,seval,↓reduceIte]
   refine endK_some ?_
   rw [hP]
   exact ⟨rfl,gx',by simp -implicitDefEqProofs only[go_sem,seval,↓reduceIte],by simp -implicitDefEqProofs only[go_sem,seval,↓reduceIte]⟩
 ·have e1:(e==0)=false:=by simpa using he
  rw [if_pos he] at hP
  refine AW.seq_k fun K hK=>AW.region (by kernel_rfl) ?_
  simp -implicitDefEqProofs only[go_sem,seval,↓reduceIte,bne,e1]
  refine hK _ ?_
  clear hK K
  refine AW.condS (by simp -implicitDefEqProofs only[go_sem,seval,↓reduceIte];rfl) (fun h4=>?_) (fun h4=>?_)
  ·refine AW.seq_k fun K hK=>AW.region (by kernel_rfl) ?_
   simp -implicitDefEqProofs only[go_sem,seval,↓reduceIte,rdO_K]
   refine hK _ ?_
   clear hK K
   refine AW.seq_k fun K hK=>AW.region (by kernel_rfl) ?_
   simp -implicitDefEqProofs only[go_sem,seval,↓reduceIte]
   refine hK _ ?_
   clear hK K
   refine AW.ret ?_
   simp -implicitDefEqProofs only[go_sem,seval,↓reduceIte]
   refine endK_some ?_
   rw [hP]
   exact ⟨rfl,gx,by simp -implicitDefEqProofs only[go_sem,seval,↓reduceIte];rfl,by simp -implicitDefEqProofs only[go_sem,seval,↓reduceIte];rfl⟩
  ·cases h4
end Go.Hs
end

section
namespace Go.Hs
open Go.Proofs
set_option maxRecDepth 10000
def InnerS (G:Nat→V) (sl:Sl Tk) (g:Nat) (inner:Inner) (i0:Nat):Prop :=
 ∀ n r,1≤n→n≤9→i0<r.i→RSok sl.l r→RdS 1031 [.func (.func 56) [] []] G 56 [.int .i64 n] sl g r (.bool (inner n r).1) (inner n r).2
theorem nextP_len {l:List Tk} (hT:TkOk l) (i:Nat):(nextP l i).text.length<100000:=by
 unfold nextP
 split
 ·rename_i t h
  split
  ·exact hT.text _ (List.mem_of_getElem? h)
  ·exact Nat.zero_lt_succ _
 ·exact Nat.zero_lt_succ _
theorem eatP_true (l:List Tk) (w:List UInt8) (r:RS):(eatP l w r).1=true→(eatP l w r).2=r.adv:=by
 unfold eatP
 split
 ·intro h;cases h
 ·exact fun _=>rfl
def restP (l:List Tk) (inner:Inner):List (List UInt8)→List Int→RS→Bool × RS
 | [],parts,r=>andThen (eatP l wEndif r) fun r4=>(true,r4.put (putAt ⟨22,0,[],0,0,0⟩ parts))
 | w::ws,parts,r=>andThen (eatP l w r) fun r1=>andThen (inner 1 r1) fun a=>restP l inner ws (parts++[a.last]) a
theorem branches_rest (l:List Tk) (inner:Inner) (r:RS):branchesP l inner r=restP l inner [wIf,wThen,wElse] [] r:=rfl
def brW:List (List UInt8):=[wIf,wThen,wElse]
theorem xBranches_spec (G:Nat→V) (hE:GExp G) (sl:Sl Tk) (hT:TkOk sl.l) (g:Nat) (r:RS) (hr:RSok sl.l r) (inner:Inner) (hin:InnerS G sl g inner r.i) (hb:Bals sl.l inner) :
  RdS 1031 [.func (.func 56) [] []] G 112 [] sl g r (.bool (branchesP sl.l inner r).1) (branchesP sl.l inner r).2:=by
 have hG:=hE.ok
 have hTl:=hT.len
 intro gx
 refine Spec.of_code' 1000 37 [.tmp 2] Tryz.func112 rfl rfl rfl rfl fun X=>?_
 refine AW.seq_k fun K hK=>AW.region (by kernel_rfl) ?_
 simp -implicitDefEqProofs only[go_sem,seval,↓reduceIte]
 refine hK _ ?_
 clear hK K
 refine AW.seq_k fun K hK=>AW.region (by kernel_rfl) ?_
 simp -implicitDefEqProofs only[go_sem,seval,↓reduceIte]
 refine hK _ ?_
 clear hK K
 refine AW.seq_k fun K1 hK1=>?_
 refine AW.seq_k fun K hK=>AW.region (by kernel_rfl) ?_
 simp -implicitDefEqProofs only[go_sem,seval,↓reduceIte]
 refine hK _ ?_
 clear hK K
 refine AW.block ?_
 refine AW.for 3 (fun k (x:Nat × Nat × List Int × RS)=>st [(0,.ptr 8 g 0),(3,grown 1027 x.1 1 x.2.2.1),(6,.agg (brW.map V.str)),(7,.int .i64 k)] [(1027,grownO x.1 (V.int .i64) x.2.2.1),(8,rdO 1031 [.func (.func 56) [] []] sl g x.2.1 x.2.2.2),(1031,ndO x.2.1 x.2.2.2.nodes)])
  (fun k x=>branchesP sl.l inner r=restP sl.l inner (brW.drop k) x.2.2.1 x.2.2.2∧RSok sl.l x.2.2.2∧r.i≤x.2.2.2.i∧x.2.2.1.length=k) 0 (0,gx,[],r) (Nat.zero_le _) ⟨branches_rest _ _ _,hr,Nat.le_refl _,rfl⟩
  (Weak.st (by simp -implicitDefEqProofs only[go_sem,seval,↓reduceIte,List.map_cons,List.map_nil];exact ⟨rfl,rfl⟩) (by simp -implicitDefEqProofs only[go_sem,seval,↓reduceIte,sets];try rfl)) ?_
 rintro k ⟨gp,gy,parts,q⟩ hk ⟨hP,hq,hqi,hpl⟩ L2 hL2
 have hP:branchesP sl.l inner r=restP sl.l inner (brW.drop k) parts q:=hP
 have hq:RSok sl.l q:=hq
 have hqi:r.i≤q.i:=hqi
 have hpl:parts.length=k:=hpl
 have hqI:q.i<1000000:=by have:=hq.1;omega
 refine AW.seq_k fun K hK=>AW.region (by kernel_rfl) ?_
 simp -implicitDefEqProofs only[go_sem,seval,↓reduceIte]
 refine hK _ ?_
 clear hK K
 refine AW.seq_k fun K3 hK3=>?_
 refine AW.condS (by simp -implicitDefEqProofs only[go_sem,seval,↓reduceIte];rfl) (fun h4=>?_) (fun h4=>?_)
 ·have hk1:k<3:=by have h4:decide ((k:Int)<3)=true:=h4;simp at h4;omega
  refine AW.skip ?_
  simp -implicitDefEqProofs only[go_sem,seval,↓reduceIte]
  refine hK3 _ ?_
  refine AW.seq_k fun K5 hK5=>?_
  refine AW.block ?_
  obtain ⟨w,hw1,hw2⟩:∃ w,(brW.map V.str)[k]? = some (.str w)∧brW.drop k=w::brW.drop (k+1):=by
   have hkl:k<brW.length:=hk1
   exact ⟨brW[k],by rw [List.getElem?_map,List.getElem?_eq_getElem hkl];rfl,List.drop_eq_getElem_cons hkl⟩
  have hk1':(k:Int)<3:=by omega
  rw [hw2,restP] at hP
  have heb:=eatP_bal sl.l w q
  have het:=eatP_true sl.l w q
  have hes:=xEat_spec G hE sl hT g q hqI w
  generalize eatP sl.l w q=y at hP heb hes het
  obtain ⟨b,q1⟩:=y
  simp only at heb hes het
  refine AW.seq_k fun K hK=>AW.region (by kernel_rfl) ?_
  simp -implicitDefEqProofs only[go_sem,seval,↓reduceIte,hw1,hk1',Int.natCast_nonneg,Nat.mul_one]
  refine hK _ ?_
  clear hK K
  refine AW.seq_k fun K6 hK6=>?_
  cases b with
  | false =>
   rw [andThen_false] at hP
   refine AW.seq_k fun K hK=>AW.region (by kernel_rfl) ?_
   simp -implicitDefEqProofs only[go_sem,seval,↓reduceIte]
   refine RdS.call hG (hes) (gx:=gy) (by kernel_rfl) (fun F=>rfl) (by decide) (by first | rfl | (simp -implicitDefEqProofs only[go_sem,seval,↓reduceIte,List.map_cons,List.map_nil,encXN_K];try rfl)) (by first | rfl | (simp -implicitDefEqProofs only[go_sem,seval,↓reduceIte,List.map_cons,List.map_nil];try rfl)) (by first | rfl | (simp -implicitDefEqProofs only[go_sem,seval,↓reduceIte];try rfl)) (by first | rfl | (simp -implicitDefEqProofs only[go_sem,seval,↓reduceIte];try rfl)) fun gz=>?_
   simp -implicitDefEqProofs only[go_sem,seval,↓reduceIte,sets]
   refine hK _ ?_
   clear hK K
   refine AW.condS (by simp -implicitDefEqProofs only[go_sem,seval,↓reduceIte];rfl) (fun h7=>?_) (fun h7=>?_)
   ·refine AW.seq_k fun K hK=>AW.region (by kernel_rfl) ?_
    simp -implicitDefEqProofs only[go_sem,seval,↓reduceIte]
    refine hK _ ?_
    clear hK K
    refine AW.ret ?_
    simp -implicitDefEqProofs only[go_sem,seval,↓reduceIte]
    refine endK_some ?_
    rw [hP]
    exact ⟨rfl,gz,by first | rfl | (simp -implicitDefEqProofs only[go_sem,seval,↓reduceIte];try rfl),by first | rfl | (simp -implicitDefEqProofs only[go_sem,seval,↓reduceIte];try rfl)⟩
   ·cases h7
  | true =>
   rw [andThen_true] at hP
   have hb1:=heb.2 rfl
   have hq1:=hb1.ok hq
   have hlt:r.i<q1.i:=by rw [het rfl];show r.i<q.i+1;omega
   have hc:=hin 1 q1 (by decide) (by decide) hlt hq1
   have hb2:=hb 1 q1
   generalize inner 1 q1=z at hP hc hb2
   obtain ⟨b,a⟩:=z
   simp only at hc hb2
   have ha:=hb2.ok hq1
   have han:a.nodes.length<1000000:=by have:=ha.1;have:=ha.2;omega
   cases b with
   | false =>
    rw [andThen_false] at hP
    refine AW.seq_k fun K hK=>AW.region (by kernel_rfl) ?_
    simp -implicitDefEqProofs only[go_sem,seval,↓reduceIte,rdO_K]
    refine RdS.call hG (hes) (gx:=gy) (by kernel_rfl) (fun F=>rfl) (by decide) (by first | rfl | (simp -implicitDefEqProofs only[go_sem,seval,↓reduceIte,List.map_cons,List.map_nil,encXN_K];try rfl)) (by first | rfl | (simp -implicitDefEqProofs only[go_sem,seval,↓reduceIte,List.map_cons,List.map_nil];try rfl)) (by first | rfl | (simp -implicitDefEqProofs only[go_sem,seval,↓reduceIte];try rfl)) (by first | rfl | (simp -implicitDefEqProofs only[go_sem,seval,↓reduceIte];try rfl)) fun gz=>?_
    simp -implicitDefEqProofs only[go_sem,seval,↓reduceIte,sets]
    simp -implicitDefEqProofs only[go_sem,seval,↓reduceIte,rdO_K]
    refine RdS.call hG (hc) (gx:=gz) (by kernel_rfl) (fun F=>rfl) (by decide) (by first | rfl | (simp -implicitDefEqProofs only[go_sem,seval,↓reduceIte,List.map_cons,List.map_nil,encXN_K];try rfl)) (by first | rfl | (simp -implicitDefEqProofs only[go_sem,seval,↓reduceIte,List.map_cons,List.map_nil];try rfl)) (by first | rfl | (simp -implicitDefEqProofs only[go_sem,seval,↓reduceIte];try rfl)) (by first | rfl | (simp -implicitDefEqProofs only[go_sem,seval,↓reduceIte];try rfl)) fun gz2=>?_
    simp -implicitDefEqProofs only[go_sem,seval,↓reduceIte,sets]
    refine hK _ ?_
    clear hK K
    refine AW.condS (by simp -implicitDefEqProofs only[go_sem,seval,↓reduceIte];rfl) (fun h7=>?_) (fun h7=>?_)
    ·refine AW.seq_k fun K hK=>AW.region (by kernel_rfl) ?_
     simp -implicitDefEqProofs only[go_sem,seval,↓reduceIte]
     refine hK _ ?_
     clear hK K
     refine AW.ret ?_
     simp -implicitDefEqProofs only[go_sem,seval,↓reduceIte]
     refine endK_some ?_
     rw [hP]
     exact ⟨rfl,gz2,by first | rfl | (simp -implicitDefEqProofs only[go_sem,seval,↓reduceIte];try rfl),by first | rfl | (simp -implicitDefEqProofs only[go_sem,seval,↓reduceIte];try rfl)⟩
    ·cases h7
   | true =>
    rw [andThen_true] at hP
    refine AW.seq_k fun K hK=>AW.region (by kernel_rfl) ?_
    simp -implicitDefEqProofs only[go_sem,seval,↓reduceIte,rdO_K]
    refine RdS.call hG (hes) (gx:=gy) (by kernel_rfl) (fun F=>rfl) (by decide) (by first | rfl | (simp -implicitDefEqProofs only[go_sem,seval,↓reduceIte,List.map_cons,List.map_nil,encXN_K];try rfl)) (by first | rfl | (simp -implicitDefEqProofs only[go_sem,seval,↓reduceIte,List.map_cons,List.map_nil];try rfl)) (by first | rfl | (simp -implicitDefEqProofs only[go_sem,seval,↓reduceIte];try rfl)) (by first | rfl | (simp -implicitDefEqProofs only[go_sem,seval,↓reduceIte];try rfl)) fun gz=>?_
    simp -implicitDefEqProofs only[go_sem,seval,↓reduceIte,sets]
    simp -implicitDefEqProofs only[go_sem,seval,↓reduceIte,rdO_K]
    refine RdS.call hG (hc) (gx:=gz) (by kernel_rfl) (fun F=>rfl) (by decide) (by first | rfl | (simp -implicitDefEqProofs only[go_sem,seval,↓reduceIte,List.map_cons,List.map_nil,encXN_K];try rfl)) (by first | rfl | (simp -implicitDefEqProofs only[go_sem,seval,↓reduceIte,List.map_cons,List.map_nil];try rfl)) (by first | rfl | (simp -implicitDefEqProofs only[go_sem,seval,↓reduceIte];try rfl)) (by first | rfl | (simp -implicitDefEqProofs only[go_sem,seval,↓reduceIte];try rfl)) fun gz2=>?_
    simp -implicitDefEqProofs only[go_sem,seval,↓reduceIte,sets]
    refine hK _ ?_
    clear hK K
    refine AW.condS (by simp -implicitDefEqProofs only[go_sem,seval,↓reduceIte];rfl) (fun h7=>?_) (fun h7=>?_)
    ·cases h7
    ·refine AW.skip ?_
     simp -implicitDefEqProofs only[go_sem,seval,↓reduceIte]
     refine hK6 _ ?_
     refine AW.region (by kernel_rfl) ?_
     simp -implicitDefEqProofs only[go_sem,seval,↓reduceIte]
     refine RdS.call hG (xLast_spec G hG sl g a han) (gx:=gz2) (by kernel_rfl) (fun F=>rfl) (by decide) (by first | rfl | (simp -implicitDefEqProofs only[go_sem,seval,↓reduceIte,List.map_cons,List.map_nil,encXN_K];try rfl)) (by first | rfl | (simp -implicitDefEqProofs only[go_sem,seval,↓reduceIte,List.map_cons,List.map_nil];try rfl)) (by first | rfl | (simp -implicitDefEqProofs only[go_sem,seval,↓reduceIte];try rfl)) (by first | rfl | (simp -implicitDefEqProofs only[go_sem,seval,↓reduceIte];try rfl)) fun gz3=>?_
     simp -implicitDefEqProofs only[go_sem,seval,↓reduceIte,sets]
     intro g26
     refine app_grown (f:=V.int .i64) (l:=parts) (l2:=[a.last]) (g:=gp) (fun _=>rfl) rfl rfl rfl (by simp -implicitDefEqProofs only[go_sem,seval,↓reduceIte]) (roomOk_of (by omega) (by simp;omega)) fun g27=>?_
     simp -implicitDefEqProofs only[go_sem,seval,↓reduceIte]
     refine hK5 _ ?_
     refine AW.region (by kernel_rfl) ?_
     simp -implicitDefEqProofs only[go_sem,seval,↓reduceIte]
     refine hL2 _ ⟨hk1,(g27,gz3,parts++[a.last],a),⟨hP,ha,?_,?_⟩,Weak.st (by simp -implicitDefEqProofs only[go_sem,seval,↓reduceIte];exact congrArg _ (w64 (by omega) (by omega))) (by simp -implicitDefEqProofs only[go_sem,seval,↓reduceIte];try rfl)⟩
     ·show r.i≤a.i
      have:=hb2.up;omega
     ·show (parts++[a.last]).length=k+1
      rw [List.length_append,List.length_singleton,hpl]
 ·have hk1:k=3:=by have h4:decide ((k:Int)<3)=false:=h4;simp at h4;omega
  refine AW.exit ?_
  simp -implicitDefEqProofs only[go_sem,seval,↓reduceIte]
  refine hK1 _ ?_
  rw [hk1,show brW.drop 3=[] from rfl,restP] at hP
  have heb:=eatP_bal sl.l wEndif q
  have hes:=xEat_spec G hE sl hT g q hqI wEndif
  generalize eatP sl.l wEndif q=y at hP heb hes
  obtain ⟨b,q1⟩:=y
  simp only at heb hes
  have hq1:=(heb.1).ok hq
  have hqn:q1.nodes.length<1000000:=by have:=hq1.1;have:=hq1.2;omega
  cases b with
  | false =>
   rw [andThen_false] at hP
   refine AW.seq_k fun K hK=>AW.region (by kernel_rfl) ?_
   simp -implicitDefEqProofs only[go_sem,seval,↓reduceIte]
   refine RdS.call hG (hes) (gx:=gy) (by kernel_rfl) (fun F=>rfl) (by decide) (by first | rfl | (simp -implicitDefEqProofs only[go_sem,seval,↓reduceIte,List.map_cons,List.map_nil,encXN_K];try rfl)) (by first | rfl | (simp -implicitDefEqProofs only[go_sem,seval,↓reduceIte,List.map_cons,List.map_nil];try rfl)) (by first | rfl | (simp -implicitDefEqProofs only[go_sem,seval,↓reduceIte];try rfl)) (by first | rfl | (simp -implicitDefEqProofs only[go_sem,seval,↓reduceIte];try rfl)) fun gz=>?_
   simp -implicitDefEqProofs only[go_sem,seval,↓reduceIte,sets]
   refine hK _ ?_
   clear hK K
   refine AW.ret ?_
   simp -implicitDefEqProofs only[go_sem,seval,↓reduceIte]
   refine endK_some ?_
   rw [hP]
   exact ⟨rfl,gz,by first | rfl | (simp -implicitDefEqProofs only[go_sem,seval,↓reduceIte];try rfl),by first | rfl | (simp -implicitDefEqProofs only[go_sem,seval,↓reduceIte];try rfl)⟩
  | true =>
   rw [andThen_true] at hP
   refine AW.seq_k fun K hK=>AW.region (by kernel_rfl) ?_
   simp -implicitDefEqProofs only[go_sem,seval,↓reduceIte]
   refine RdS.call hG (hes) (gx:=gy) (by kernel_rfl) (fun F=>rfl) (by decide) (by first | rfl | (simp -implicitDefEqProofs only[go_sem,seval,↓reduceIte,List.map_cons,List.map_nil,encXN_K];try rfl)) (by first | rfl | (simp -implicitDefEqProofs only[go_sem,seval,↓reduceIte,List.map_cons,List.map_nil];try rfl)) (by first | rfl | (simp -implicitDefEqProofs only[go_sem,seval,↓reduceIte];try rfl)) (by first | rfl | (simp -implicitDefEqProofs only[go_sem,seval,↓reduceIte];try rfl)) fun gz=>?_
   simp -implicitDefEqProofs only[go_sem,seval,↓reduceIte,sets]
   refine CallA.frzL (fun o=>o==1027) [.ptr 8 g 0,encXN ⟨22,0,[],0,0,0⟩,encSl .new 1 (V.int .i64) (grownS parts)] [(8,rdO 1031 [.func (.func 56) [] []] sl g gz q1),(1031,ndO gz q1.nodes)] ⟨Fz.same _,Fz.same _,?_,trivial⟩ ?_ ?_
   ·exact Fz.grown (g:=gp) rfl (by simp -implicitDefEqProofs only[go_sem,seval,↓reduceIte];try rfl) (fun _=>rfl)
   ·simp only [allFzO_cons,allFzO_nil,and_true]
    exact ⟨FzO.keep rfl (by simp -implicitDefEqProofs only[go_sem,seval,↓reduceIte];try rfl),FzO.keep rfl (by simp -implicitDefEqProofs only[go_sem,seval,↓reduceIte];try rfl)⟩
   have hp3:(grownS parts).l.length≤3:=by rw [grownS_l];omega
   refine RdS.call hG (xPut_spec G hG sl g q1 hqn ⟨22,0,[],0,0,0⟩ .old (grownS parts) hp3) (gx:=gz) (by kernel_rfl) (fun F=>rfl) (by decide) (by first | rfl | (simp -implicitDefEqProofs only[go_sem,seval,↓reduceIte,List.map_cons,List.map_nil,encXN_K];try rfl)) (by first | rfl | (simp -implicitDefEqProofs only[go_sem,seval,↓reduceIte,List.map_cons,List.map_nil];try rfl)) (by first | rfl | (simp -implicitDefEqProofs only[go_sem,seval,↓reduceIte];try rfl)) (by first | rfl | (simp -implicitDefEqProofs only[go_sem,seval,↓reduceIte];try rfl)) fun gz2=>?_
   simp -implicitDefEqProofs only[go_sem,seval,↓reduceIte,sets]
   refine hK _ ?_
   clear hK K
   refine AW.ret ?_
   simp -implicitDefEqProofs only[go_sem,seval,↓reduceIte]
   refine endK_some ?_
   rw [hP]
   exact ⟨rfl,gz2,by first | rfl | (simp -implicitDefEqProofs only[go_sem,seval,↓reduceIte];try rfl),by first | rfl | (simp -implicitDefEqProofs only[go_sem,seval,↓reduceIte];try rfl)⟩
theorem xAhead_spec (G:Nat→V) (hE:GExp G) (sl:Sl Tk) (hT:TkOk sl.l) (g:Nat) (r:RS) (hr:RSok sl.l r) (inner:Inner) (hin:InnerS G sl g inner r.i) (hb:Bals sl.l inner) :
  RdS 1031 [.func (.func 56) [] []] G 74 [] sl g r (.bool (aheadP sl.l inner r).1) (aheadP sl.l inner r).2:=by
 have hG:=hE.ok
 have hTl:=hT.len
 have hri:r.i<1000000:=by have:=hr.1;omega
 have hrn:r.nodes.length<1000000:=by have:=hr.2;omega
 have hw:IntKind.i64.wrap ((r.i:Int)+1)=((r.i+1:Nat):Int):=by rw [w64 (by omega) (by omega)];omega
 intro gx
 refine Spec.of_code' 1000 107 [.tmp 2] Tryz.func74 rfl rfl rfl rfl fun X=>?_
 have hP:aheadP sl.l inner r=if (nextP sl.l r.i).kind=1 then numberP r (nextP sl.l r.i).text
  else if (nextP sl.l r.i).kind=2 then leafP r 2 0 (nextP sl.l r.i).text
  else if (nextP sl.l r.i).kind=0 then (false,r.err 80)
  else if (ofP (nextP sl.l r.i).text 1).2 then andThen (inner 9 r.adv) fun a=>(true,a.put ⟨(ofP (nextP sl.l r.i).text 1).1,0,[],a.last,-1,-1⟩)
  else if (nextP sl.l r.i).text=[40] then andThen (inner 1 r.adv) (eatP sl.l [41])
  else if (nextP sl.l r.i).text=wIf then branchesP sl.l inner r
  else if (ofP (nextP sl.l r.i).text 0).2∧(nextP sl.l r.i).kind=3 then leafP r (ofP (nextP sl.l r.i).text 0).1 0 []
  else (false,r.err 80):=rfl
 have htl:=nextP_len hT r.i
 have hadv:(nextP sl.l r.i).kind≠0→RSok sl.l r.adv:=fun h=>(Bal.adv (nextP_lt h)).ok hr
 have hno0:(nextP sl.l r.i).kind=0→(ofP (nextP sl.l r.i).text 0).2=false:=fun h=>by
  unfold ofP
  cases ho:ofI (nextP sl.l r.i).text 0 with
  | none=>rfl
  | some i =>
   have hk:=nextP_is sl.l r.i
   rw [h] at hk
   rcases ofI_zero ho with ⟨h,_⟩ | ⟨h,_⟩
   ·rw [h] at hk;exact absurd hk (by decide)
   ·rw [h] at hk;exact absurd hk (by decide)
 refine AW.seq_k fun K hK=>AW.region (by kernel_rfl) ?_
 simp -implicitDefEqProofs only[go_sem,seval,↓reduceIte]
 refine hK _ ?_
 clear hK K
 refine AW.seq_k fun K hK=>AW.region (by kernel_rfl) ?_
 simp -implicitDefEqProofs only[go_sem,seval,↓reduceIte]
 refine RdS.call hG (xNext_spec G hE sl hT g r hri) (gx:=gx) (by kernel_rfl) (fun F=>rfl) (by decide) (by first | rfl | (simp -implicitDefEqProofs only[go_sem,seval,↓reduceIte,List.map_cons,List.map_nil,encXN_K];try rfl)) (by first | rfl | (simp -implicitDefEqProofs only[go_sem,seval,↓reduceIte,List.map_cons,List.map_nil];try rfl)) (by first | rfl | (simp -implicitDefEqProofs only[go_sem,seval,↓reduceIte];try rfl)) (by first | rfl | (simp -implicitDefEqProofs only[go_sem,seval,↓reduceIte];try rfl)) fun gx1=>?_
 simp -implicitDefEqProofs only[go_sem,seval,↓reduceIte,sets]
 simp -implicitDefEqProofs only[go_sem,seval,↓reduceIte,encTk_K]
 intro g3
 refine hK _ ?_
 clear hK K
 generalize nextP sl.l r.i=t at hP htl hadv hno0 ⊢
 obtain ⟨k,t,p⟩:=t
 simp only at hP htl hadv hno0
 refine AW.seq_k fun K hK=>AW.region (by kernel_rfl) ?_
 simp -implicitDefEqProofs only[go_sem,seval,↓reduceIte]
 refine CallA.pure hG (by kernel_rfl) ?_
 simp -implicitDefEqProofs only[go_sem,seval,↓reduceIte]
 refine (xOf_spec G hG t 1).mono ?_
 rintro _ _ rfl
 generalize ofP t 1=o1 at hP ⊢
 obtain ⟨op1,one⟩:=o1
 simp only at hP
 simp -implicitDefEqProofs only[go_sem,seval,↓reduceIte,encOf]
 refine hK _ ?_
 clear hK K
 refine AW.seqJ (fun (_:Unit)=>st [(0,.ptr 8 g 0),(3,.ptr 1003 g3 0)] [(1003,.cells .new g3 0 [.int .u8 k,.str t,.int .i64 p]),(8,rdO 1031 [.func (.func 56) [] []] sl g gx1 r),(1031,ndO gx1 r.nodes)])
  (fun _=>(k=0∨(k≠0∧k≠1∧k≠2∧one=false∧t≠[40]∧t≠wIf))) (fun K1 hK1=>?_) ?_
 ·refine AW.block ?_
  by_cases k1:k=1
  ·have e1:(k==1)=true:=by simpa using k1
   rw [if_pos k1] at hP
   refine AW.seq_k fun K hK=>AW.region (by kernel_rfl) ?_
   simp -implicitDefEqProofs only[go_sem,seval,↓reduceIte,e1]
   refine hK _ ?_
   clear hK K
   refine AW.condS (by simp -implicitDefEqProofs only[go_sem,seval,↓reduceIte];rfl) (fun h2=>?_) (fun h2=>?_)
   ·refine AW.seq_k fun K hK=>AW.region (by kernel_rfl) ?_
    simp -implicitDefEqProofs only[go_sem,seval,↓reduceIte]
    refine RdS.call hG (xNumber_spec G hE sl g r hri hrn t htl) (gx:=gx1) (by kernel_rfl) (fun F=>rfl) (by decide) (by first | rfl | (simp -implicitDefEqProofs only[go_sem,seval,↓reduceIte,List.map_cons,List.map_nil,encXN_K];try rfl)) (by first | rfl | (simp -implicitDefEqProofs only[go_sem,seval,↓reduceIte,List.map_cons,List.map_nil];try rfl)) (by first | rfl | (simp -implicitDefEqProofs only[go_sem,seval,↓reduceIte];try rfl)) (by first | rfl | (simp -implicitDefEqProofs only[go_sem,seval,↓reduceIte];try rfl)) fun gx2=>?_
    simp -implicitDefEqProofs only[go_sem,seval,↓reduceIte,sets]
    refine hK _ ?_
    clear hK K
    refine AW.ret ?_
    simp -implicitDefEqProofs only[go_sem,seval,↓reduceIte]
    refine endK_some ?_
    rw [hP]
    exact ⟨rfl,gx2,by first | rfl | (simp -implicitDefEqProofs only[go_sem,seval,↓reduceIte];try rfl),by first | rfl | (simp -implicitDefEqProofs only[go_sem,seval,↓reduceIte];try rfl)⟩
   ·cases h2
  have e1:(k==1)=false:=by simpa using k1
  rw [if_neg k1] at hP
  refine AW.seq_k fun K hK=>AW.region (by kernel_rfl) ?_
  simp -implicitDefEqProofs only[go_sem,seval,↓reduceIte,e1]
  refine hK _ ?_
  clear hK K
  refine AW.condS (by simp -implicitDefEqProofs only[go_sem,seval,↓reduceIte];rfl) (fun h2=>?_) (fun h2=>?_)
  ·cases h2
  clear h2
  by_cases k2:k=2
  ·have e2:(k==2)=true:=by simpa using k2
   rw [if_pos k2] at hP
   refine AW.seq_k fun K hK=>AW.region (by kernel_rfl) ?_
   simp -implicitDefEqProofs only[go_sem,seval,↓reduceIte,e2]
   refine hK _ ?_
   clear hK K
   refine AW.condS (by simp -implicitDefEqProofs only[go_sem,seval,↓reduceIte];rfl) (fun h2=>?_) (fun h2=>?_)
   ·refine AW.seq_k fun K hK=>AW.region (by kernel_rfl) ?_
    simp -implicitDefEqProofs only[go_sem,seval,↓reduceIte]
    rw [← encXN_K ⟨2,0,t,0,0,0⟩]
    refine RdS.call hG (xLeaf_spec G hG sl g r hri hrn 2 0 t 0 0 0) (gx:=gx1) (by kernel_rfl) (fun F=>rfl) (by decide) (by first | rfl | (simp -implicitDefEqProofs only[go_sem,seval,↓reduceIte,List.map_cons,List.map_nil,encXN_K];try rfl)) (by first | rfl | (simp -implicitDefEqProofs only[go_sem,seval,↓reduceIte,List.map_cons,List.map_nil];try rfl)) (by first | rfl | (simp -implicitDefEqProofs only[go_sem,seval,↓reduceIte];try rfl)) (by first | rfl | (simp -implicitDefEqProofs only[go_sem,seval,↓reduceIte];try rfl)) fun gx2=>?_
    simp -implicitDefEqProofs only[go_sem,seval,↓reduceIte,sets]
    refine hK _ ?_
    clear hK K
    refine AW.ret ?_
    simp -implicitDefEqProofs only[go_sem,seval,↓reduceIte]
    refine endK_some ?_
    rw [hP]
    exact ⟨rfl,gx2,by first | rfl | (simp -implicitDefEqProofs only[go_sem,seval,↓reduceIte];try rfl),by first | rfl | (simp -implicitDefEqProofs only[go_sem,seval,↓reduceIte];try rfl)⟩
   ·cases h2
  have e2:(k==2)=false:=by simpa using k2
  rw [if_neg k2] at hP
  refine AW.seq_k fun K hK=>AW.region (by kernel_rfl) ?_
  simp -implicitDefEqProofs only[go_sem,seval,↓reduceIte,e2]
  refine hK _ ?_
  clear hK K
  refine AW.condS (by simp -implicitDefEqProofs only[go_sem,seval,↓reduceIte];rfl) (fun h2=>?_) (fun h2=>?_)
  ·cases h2
  clear h2
  by_cases k0:k=0
  ·have e0:(k==0)=true:=by simpa using k0
   refine AW.seq_k fun K hK=>AW.region (by kernel_rfl) ?_
   simp -implicitDefEqProofs only[go_sem,seval,↓reduceIte,e0]
   refine hK _ ?_
   clear hK K
   refine AW.condS (by simp -implicitDefEqProofs only[go_sem,seval,↓reduceIte];rfl) (fun h2=>?_) (fun h2=>?_)
   ·refine AW.skip ?_
    simp -implicitDefEqProofs only[go_sem,seval,↓reduceIte]
    exact hK1 _ () (.inl k0) (Weak.st (by simp -implicitDefEqProofs only[go_sem,seval,↓reduceIte]) (by simp -implicitDefEqProofs only[go_sem,seval,↓reduceIte]))
   ·cases h2
  have e0:(k==0)=false:=by simpa using k0
  rw [if_neg k0] at hP
  have had:=hadv k0
  refine AW.seq_k fun K hK=>AW.region (by kernel_rfl) ?_
  simp -implicitDefEqProofs only[go_sem,seval,↓reduceIte,e0]
  refine hK _ ?_
  clear hK K
  refine AW.condS (by simp -implicitDefEqProofs only[go_sem,seval,↓reduceIte];rfl) (fun h2=>?_) (fun h2=>?_)
  ·cases h2
  clear h2
  refine AW.seq_k fun K hK=>AW.region (by kernel_rfl) ?_
  simp -implicitDefEqProofs only[go_sem,seval,↓reduceIte]
  refine hK _ ?_
  clear hK K
  refine AW.condS (by simp -implicitDefEqProofs only[go_sem,seval,↓reduceIte];rfl) (fun h3=>?_) (fun h3=>?_)
  ·subst h3
   rw [if_pos rfl] at hP
   have hc:=hin 9 r.adv (by decide) (by decide) (Nat.lt_succ_self _) had
   have hbl:=(hb 9 r.adv).ok had
   generalize inner 9 r.adv=x at hc hP hbl
   obtain ⟨b,a⟩:=x
   simp only at hc hbl
   have han:a.nodes.length<1000000:=by have:=hbl.1;have:=hbl.2;omega
   refine AW.seq_k fun K hK=>AW.region (by kernel_rfl) ?_
   simp -implicitDefEqProofs only[go_sem,seval,↓reduceIte,rdO_K,hw]
   refine hK _ ?_
   clear hK K
   cases b with
   | false =>
    refine AW.seq_k fun K hK=>AW.region (by kernel_rfl) ?_
    simp -implicitDefEqProofs only[go_sem,seval,↓reduceIte,rdO_K]
    refine RdS.call hG (hc) (gx:=gx1) (by kernel_rfl) (fun F=>rfl) (by decide) (by first | rfl | (simp -implicitDefEqProofs only[go_sem,seval,↓reduceIte,List.map_cons,List.map_nil,encXN_K];try rfl)) (by first | rfl | (simp -implicitDefEqProofs only[go_sem,seval,↓reduceIte,List.map_cons,List.map_nil];try rfl)) (by first | rfl | (simp -implicitDefEqProofs only[go_sem,seval,↓reduceIte];try rfl)) (by first | rfl | (simp -implicitDefEqProofs only[go_sem,seval,↓reduceIte];try rfl)) fun gx2=>?_
    simp -implicitDefEqProofs only[go_sem,seval,↓reduceIte,sets]
    refine hK _ ?_
    clear hK K
    refine AW.ret ?_
    simp -implicitDefEqProofs only[go_sem,seval,↓reduceIte]
    refine endK_some ?_
    rw [hP]
    exact ⟨rfl,gx2,by first | rfl | (simp -implicitDefEqProofs only[go_sem,seval,↓reduceIte];try rfl),by first | rfl | (simp -implicitDefEqProofs only[go_sem,seval,↓reduceIte];try rfl)⟩
   | true =>
    refine AW.seq_k fun K hK=>AW.region (by kernel_rfl) ?_
    simp -implicitDefEqProofs only[go_sem,seval,↓reduceIte,rdO_K]
    refine RdS.call hG (hc) (gx:=gx1) (by kernel_rfl) (fun F=>rfl) (by decide) (by first | rfl | (simp -implicitDefEqProofs only[go_sem,seval,↓reduceIte,List.map_cons,List.map_nil,encXN_K];try rfl)) (by first | rfl | (simp -implicitDefEqProofs only[go_sem,seval,↓reduceIte,List.map_cons,List.map_nil];try rfl)) (by first | rfl | (simp -implicitDefEqProofs only[go_sem,seval,↓reduceIte];try rfl)) (by first | rfl | (simp -implicitDefEqProofs only[go_sem,seval,↓reduceIte];try rfl)) fun gx2=>?_
    simp -implicitDefEqProofs only[go_sem,seval,↓reduceIte,sets]
    refine RdS.call hG (xLast_spec G hG sl g a han) (gx:=gx2) (by kernel_rfl) (fun F=>rfl) (by decide) (by first | rfl | (simp -implicitDefEqProofs only[go_sem,seval,↓reduceIte,List.map_cons,List.map_nil,encXN_K];try rfl)) (by first | rfl | (simp -implicitDefEqProofs only[go_sem,seval,↓reduceIte,List.map_cons,List.map_nil];try rfl)) (by first | rfl | (simp -implicitDefEqProofs only[go_sem,seval,↓reduceIte];try rfl)) (by first | rfl | (simp -implicitDefEqProofs only[go_sem,seval,↓reduceIte];try rfl)) fun gx3=>?_
    simp -implicitDefEqProofs only[go_sem,seval,↓reduceIte,sets]
    intro g58
    refine CallA.frzL (fun o=>o==1058) [.ptr 8 g 0,encXN ⟨op1,0,[],0,0,0⟩,.slice .new false 1 [.int .i64 a.last]] [(8,rdO 1031 [.func (.func 56) [] []] sl g gx3 a),(1031,ndO gx3 a.nodes)] ⟨Fz.same _,Fz.same _,?_,trivial⟩ ?_ ?_
    ·exact Fz.sl (f:=V.int .i64) (l:=[a.last]) (m:=1) (g:=g58) (fz:=0) (c := .new) rfl (by simp -implicitDefEqProofs only[go_sem,seval,↓reduceIte];rfl) (fun _=>rfl)
    ·simp only [allFzO_cons,allFzO_nil,and_true]
     exact ⟨FzO.keep rfl (by simp -implicitDefEqProofs only[go_sem,seval,↓reduceIte];try rfl),FzO.keep rfl (by simp -implicitDefEqProofs only[go_sem,seval,↓reduceIte];try rfl)⟩
    refine RdS.call hG (xPut_spec G hG sl g a han ⟨op1,0,[],0,0,0⟩ .old (.mk false [a.last]) (Nat.le_of_ble_eq_true rfl)) (gx:=gx3) (by kernel_rfl) (fun F=>rfl) (by decide) (by first | rfl | (simp -implicitDefEqProofs only[go_sem,seval,↓reduceIte,List.map_cons,List.map_nil,encXN_K];try rfl)) (by first | rfl | (simp -implicitDefEqProofs only[go_sem,seval,↓reduceIte,List.map_cons,List.map_nil];try rfl)) (by first | rfl | (simp -implicitDefEqProofs only[go_sem,seval,↓reduceIte];try rfl)) (by first | rfl | (simp -implicitDefEqProofs only[go_sem,seval,↓reduceIte];try rfl)) fun gx4=>?_
    simp -implicitDefEqProofs only[go_sem,seval,↓reduceIte,sets]
    refine hK _ ?_
    clear hK K
    refine AW.ret ?_
    simp -implicitDefEqProofs only[go_sem,seval,↓reduceIte]
    refine endK_some ?_
    rw [hP]
    exact ⟨rfl,gx4,by first | rfl | (simp -implicitDefEqProofs only[go_sem,seval,↓reduceIte];try rfl),by first | rfl | (simp -implicitDefEqProofs only[go_sem,seval,↓reduceIte];try rfl)⟩
  ·subst h3
   rw [if_neg (by simp)] at hP
   refine AW.seq_k fun K hK=>AW.region (by kernel_rfl) ?_
   simp -implicitDefEqProofs only[go_sem,seval,↓reduceIte]
   refine hK _ ?_
   clear hK K
   refine AW.condS (by simp -implicitDefEqProofs only[go_sem,seval,↓reduceIte];rfl) (fun h4=>?_) (fun h4=>?_)
   ·have h4:t=[40]:=by simpa using h4
    rw [if_pos h4] at hP
    have hc:=hin 1 r.adv (by decide) (by decide) (Nat.lt_succ_self _) had
    have hbl:=(hb 1 r.adv).ok had
    generalize inner 1 r.adv=x at hc hP hbl
    obtain ⟨b,a⟩:=x
    simp only at hc hbl
    have hai:a.i<1000000:=by have:=hbl.1;omega
    refine AW.seq_k fun K hK=>AW.region (by kernel_rfl) ?_
    simp -implicitDefEqProofs only[go_sem,seval,↓reduceIte,rdO_K,hw]
    refine hK _ ?_
    clear hK K
    cases b with
    | false =>
     refine AW.seq_k fun K hK=>AW.region (by kernel_rfl) ?_
     simp -implicitDefEqProofs only[go_sem,seval,↓reduceIte,rdO_K]
     refine RdS.call hG (hc) (gx:=gx1) (by kernel_rfl) (fun F=>rfl) (by decide) (by first | rfl | (simp -implicitDefEqProofs only[go_sem,seval,↓reduceIte,List.map_cons,List.map_nil,encXN_K];try rfl)) (by first | rfl | (simp -implicitDefEqProofs only[go_sem,seval,↓reduceIte,List.map_cons,List.map_nil];try rfl)) (by first | rfl | (simp -implicitDefEqProofs only[go_sem,seval,↓reduceIte];try rfl)) (by first | rfl | (simp -implicitDefEqProofs only[go_sem,seval,↓reduceIte];try rfl)) fun gx2=>?_
     simp -implicitDefEqProofs only[go_sem,seval,↓reduceIte,sets]
     refine hK _ ?_
     clear hK K
     refine AW.ret ?_
     simp -implicitDefEqProofs only[go_sem,seval,↓reduceIte]
     refine endK_some ?_
     rw [hP]
     exact ⟨rfl,gx2,by first | rfl | (simp -implicitDefEqProofs only[go_sem,seval,↓reduceIte];try rfl),by first | rfl | (simp -implicitDefEqProofs only[go_sem,seval,↓reduceIte];try rfl)⟩
    | true =>
     rw [andThen_true] at hP
     refine AW.seq_k fun K hK=>AW.region (by kernel_rfl) ?_
     simp -implicitDefEqProofs only[go_sem,seval,↓reduceIte,rdO_K]
     refine RdS.call hG (hc) (gx:=gx1) (by kernel_rfl) (fun F=>rfl) (by decide) (by first | rfl | (simp -implicitDefEqProofs only[go_sem,seval,↓reduceIte,List.map_cons,List.map_nil,encXN_K];try rfl)) (by first | rfl | (simp -implicitDefEqProofs only[go_sem,seval,↓reduceIte,List.map_cons,List.map_nil];try rfl)) (by first | rfl | (simp -implicitDefEqProofs only[go_sem,seval,↓reduceIte];try rfl)) (by first | rfl | (simp -implicitDefEqProofs only[go_sem,seval,↓reduceIte];try rfl)) fun gx2=>?_
     simp -implicitDefEqProofs only[go_sem,seval,↓reduceIte,sets]
     refine RdS.call hG (xEat_spec G hE sl hT g a hai [41]) (gx:=gx2) (by kernel_rfl) (fun F=>rfl) (by decide) (by first | rfl | (simp -implicitDefEqProofs only[go_sem,seval,↓reduceIte,List.map_cons,List.map_nil,encXN_K];try rfl)) (by first | rfl | (simp -implicitDefEqProofs only[go_sem,seval,↓reduceIte,List.map_cons,List.map_nil];try rfl)) (by first | rfl | (simp -implicitDefEqProofs only[go_sem,seval,↓reduceIte];try rfl)) (by first | rfl | (simp -implicitDefEqProofs only[go_sem,seval,↓reduceIte];try rfl)) fun gx3=>?_
     simp -implicitDefEqProofs only[go_sem,seval,↓reduceIte,sets]
     generalize eatP sl.l [41] a=y at hP ⊢
     obtain ⟨b,a2⟩:=y
     cases b with
     | true =>
      simp -implicitDefEqProofs only[go_sem,seval,↓reduceIte]
      refine hK _ ?_
      clear hK K
      refine AW.ret ?_
      simp -implicitDefEqProofs only[go_sem,seval,↓reduceIte]
      refine endK_some ?_
      rw [hP]
      exact ⟨rfl,gx3,by first | rfl | (simp -implicitDefEqProofs only[go_sem,seval,↓reduceIte];try rfl),by first | rfl | (simp -implicitDefEqProofs only[go_sem,seval,↓reduceIte];try rfl)⟩
     | false =>
      simp -implicitDefEqProofs only[go_sem,seval,↓reduceIte]
      refine hK _ ?_
      clear hK K
      refine AW.ret ?_
      simp -implicitDefEqProofs only[go_sem,seval,↓reduceIte]
      refine endK_some ?_
      rw [hP]
      exact ⟨rfl,gx3,by first | rfl | (simp -implicitDefEqProofs only[go_sem,seval,↓reduceIte];try rfl),by first | rfl | (simp -implicitDefEqProofs only[go_sem,seval,↓reduceIte];try rfl)⟩
   ·have h4:¬ t=[40]:=by simpa using h4
    rw [if_neg h4] at hP
    refine AW.seq_k fun K hK=>AW.region (by kernel_rfl) ?_
    simp -implicitDefEqProofs only[go_sem,seval,↓reduceIte]
    refine hK _ ?_
    clear hK K
    refine AW.condS (by simp -implicitDefEqProofs only[go_sem,seval,↓reduceIte];rfl) (fun h5=>?_) (fun h5=>?_)
    ·have h5:t=wIf:=by
      have h5:(t==[105,102])=true:=h5
      exact eq_of_beq h5
     rw [if_pos h5] at hP
     refine AW.seq_k fun K hK=>AW.region (by kernel_rfl) ?_
     simp -implicitDefEqProofs only[go_sem,seval,↓reduceIte]
     refine RdS.call hG (xBranches_spec G hE sl hT g r hr inner hin hb) (gx:=gx1) (by kernel_rfl) (fun F=>rfl) (by decide) (by first | rfl | (simp -implicitDefEqProofs only[go_sem,seval,↓reduceIte,List.map_cons,List.map_nil,encXN_K];try rfl)) (by first | rfl | (simp -implicitDefEqProofs only[go_sem,seval,↓reduceIte,List.map_cons,List.map_nil];try rfl)) (by first | rfl | (simp -implicitDefEqProofs only[go_sem,seval,↓reduceIte];try rfl)) (by first | rfl | (simp -implicitDefEqProofs only[go_sem,seval,↓reduceIte];try rfl)) fun gx2=>?_
     simp -implicitDefEqProofs only[go_sem,seval,↓reduceIte,sets]
     refine hK _ ?_
     clear hK K
     refine AW.ret ?_
     simp -implicitDefEqProofs only[go_sem,seval,↓reduceIte]
     refine endK_some ?_
     rw [hP]
     exact ⟨rfl,gx2,by first | rfl | (simp -implicitDefEqProofs only[go_sem,seval,↓reduceIte];try rfl),by first | rfl | (simp -implicitDefEqProofs only[go_sem,seval,↓reduceIte];try rfl)⟩
    ·have h5:¬ t=wIf:=by
      have h5:(t==[105,102])=false:=h5
      exact beq_eq_false_iff_ne.1 h5
     refine AW.skip ?_
     simp -implicitDefEqProofs only[go_sem,seval,↓reduceIte]
     exact hK1 _ () (.inr ⟨k0,k1,k2,rfl,h4,h5⟩) (Weak.st (by simp -implicitDefEqProofs only[go_sem,seval,↓reduceIte]) (by simp -implicitDefEqProofs only[go_sem,seval,↓reduceIte]))
 rintro _ hcase
 have hP2:aheadP sl.l inner r=if (ofP t 0).2∧k=3 then leafP r (ofP t 0).1 0 [] else (false,r.err 80):=by
  rw [hP]
  rcases hcase with k0 | ⟨k0,k1,k2,k3,k4,k5⟩
  ·have:=hno0 k0
   subst k0
   rw [if_neg (by decide),if_neg (by decide),if_pos rfl,this,if_neg (by simp)]
  ·rw [if_neg k1,if_neg k2,if_neg k0,k3,if_neg (by simp),if_neg k4,if_neg k5]
 clear hP
 have hP:=hP2
 clear hP2 hno0 hcase
 refine AW.seq_k fun K6 hK6=>?_
 refine AW.seq_k fun K hK=>AW.region (by kernel_rfl) ?_
 simp -implicitDefEqProofs only[go_sem,seval,↓reduceIte]
 refine CallA.pure hG (by kernel_rfl) ?_
 simp -implicitDefEqProofs only[go_sem,seval,↓reduceIte]
 refine (xOf_spec G hG t 0).mono ?_
 rintro _ _ rfl
 generalize ofP t 0=o0 at hP ⊢
 obtain ⟨op0,ok⟩:=o0
 simp only at hP
 simp -implicitDefEqProofs only[go_sem,seval,↓reduceIte,encOf]
 refine hK _ ?_
 clear hK K
 cases ok with
 | false =>
  rw [if_neg (by simp)] at hP
  refine AW.seq_k fun K hK=>AW.region (by kernel_rfl) ?_
  simp -implicitDefEqProofs only[go_sem,seval,↓reduceIte]
  refine hK _ ?_
  clear hK K
  refine AW.condS (by simp -implicitDefEqProofs only[go_sem,seval,↓reduceIte];rfl) (fun h7=>?_) (fun h7=>?_)
  ·cases h7
  ·refine AW.skip ?_
   simp -implicitDefEqProofs only[go_sem,seval,↓reduceIte]
   refine hK6 _ ?_
   refine AW.seq_k fun K hK=>AW.region (by kernel_rfl) ?_
   simp -implicitDefEqProofs only[go_sem,seval,↓reduceIte,rdO_K]
   refine hK _ ?_
   clear hK K
   refine AW.seq_k fun K hK=>AW.region (by kernel_rfl) ?_
   simp -implicitDefEqProofs only[go_sem,seval,↓reduceIte]
   refine hK _ ?_
   clear hK K
   refine AW.ret ?_
   simp -implicitDefEqProofs only[go_sem,seval,↓reduceIte]
   refine endK_some ?_
   rw [hP]
   exact ⟨rfl,gx1,by first | rfl | (simp -implicitDefEqProofs only[go_sem,seval,↓reduceIte];try rfl),by first | rfl | (simp -implicitDefEqProofs only[go_sem,seval,↓reduceIte];try rfl)⟩
 | true =>
  by_cases k3:k=3
  ·have e3:(k==3)=true:=by simpa using k3
   rw [if_pos ⟨rfl,k3⟩] at hP
   refine AW.seq_k fun K hK=>AW.region (by kernel_rfl) ?_
   simp -implicitDefEqProofs only[go_sem,seval,↓reduceIte,e3]
   refine hK _ ?_
   clear hK K
   refine AW.condS (by simp -implicitDefEqProofs only[go_sem,seval,↓reduceIte];rfl) (fun h7=>?_) (fun h7=>?_)
   ·refine AW.seq_k fun K hK=>AW.region (by kernel_rfl) ?_
    simp -implicitDefEqProofs only[go_sem,seval,↓reduceIte]
    rw [← encXN_K ⟨op0,0,[],0,0,0⟩]
    refine RdS.call hG (xLeaf_spec G hG sl g r hri hrn op0 0 [] 0 0 0) (gx:=gx1) (by kernel_rfl) (fun F=>rfl) (by decide) (by first | rfl | (simp -implicitDefEqProofs only[go_sem,seval,↓reduceIte,List.map_cons,List.map_nil,encXN_K];try rfl)) (by first | rfl | (simp -implicitDefEqProofs only[go_sem,seval,↓reduceIte,List.map_cons,List.map_nil];try rfl)) (by first | rfl | (simp -implicitDefEqProofs only[go_sem,seval,↓reduceIte];try rfl)) (by first | rfl | (simp -implicitDefEqProofs only[go_sem,seval,↓reduceIte];try rfl)) fun gx2=>?_
    simp -implicitDefEqProofs only[go_sem,seval,↓reduceIte,sets]
    refine hK _ ?_
    clear hK K
    refine AW.ret ?_
    simp -implicitDefEqProofs only[go_sem,seval,↓reduceIte]
    refine endK_some ?_
    rw [hP]
    exact ⟨rfl,gx2,by first | rfl | (simp -implicitDefEqProofs only[go_sem,seval,↓reduceIte];try rfl),by first | rfl | (simp -implicitDefEqProofs only[go_sem,seval,↓reduceIte];try rfl)⟩
   ·cases h7
  ·have e3:(k==3)=false:=by simpa using k3
   rw [if_neg (fun h=>k3 h.2)] at hP
   refine AW.seq_k fun K hK=>AW.region (by kernel_rfl) ?_
   simp -implicitDefEqProofs only[go_sem,seval,↓reduceIte,e3]
   refine hK _ ?_
   clear hK K
   refine AW.condS (by simp -implicitDefEqProofs only[go_sem,seval,↓reduceIte];rfl) (fun h7=>?_) (fun h7=>?_)
   ·cases h7
   ·refine AW.skip ?_
    simp -implicitDefEqProofs only[go_sem,seval,↓reduceIte]
    refine hK6 _ ?_
    refine AW.seq_k fun K hK=>AW.region (by kernel_rfl) ?_
    simp -implicitDefEqProofs only[go_sem,seval,↓reduceIte,rdO_K]
    refine hK _ ?_
    clear hK K
    refine AW.seq_k fun K hK=>AW.region (by kernel_rfl) ?_
    simp -implicitDefEqProofs only[go_sem,seval,↓reduceIte]
    refine hK _ ?_
    clear hK K
    refine AW.ret ?_
    simp -implicitDefEqProofs only[go_sem,seval,↓reduceIte]
    refine endK_some ?_
    rw [hP]
    exact ⟨rfl,gx1,by first | rfl | (simp -implicitDefEqProofs only[go_sem,seval,↓reduceIte];try rfl),by first | rfl | (simp -implicitDefEqProofs only[go_sem,seval,↓reduceIte];try rfl)⟩
end Go.Hs
end

section
namespace Go.Hs
open Go.Proofs
set_option maxRecDepth 10000
theorem loopP_succ (l:List Tk) (inner:Inner) (n:Int) (m:Nat) (r:RS):loopP l inner n (m+1) r=match opAt l r.i with
  | none=>(true,r)
  | some op=>if lvl op<n then (true,r) else andThen (inner (lvl op+1) r.adv) fun a=>loopP l inner n m (a.put ⟨op,0,[],r.last,a.last,-1⟩):=rfl
theorem ofP_opAt {l:List Tk} {i:Nat}:((nextP l i).kind=0∨(ofP (nextP l i).text 2).2=false→opAt l i=none)∧((nextP l i).kind≠0→(ofP (nextP l i).text 2).2=true→opAt l i=some (ofP (nextP l i).text 2).1):=by
 unfold opAt ofP
 constructor
 ·rintro (h | h)
  ·rw [if_pos h]
  ·split
   ·rfl
   ·cases ho:ofI (nextP l i).text 2 with
    | none=>rfl
    | some op=>rw [ho] at h;cases h
 ·intro h h2
  rw [if_neg h]
  cases ho:ofI (nextP l i).text 2 with
  | none=>rw [ho] at h2;cases h2
  | some op=>rfl
theorem ofP_lt (t:List UInt8) (p:Int):(ofP t p).1<23:=by
 unfold ofP
 split
 ·rename_i h;exact ofI_lt h
 ·decide
theorem xClimb_spec (G:Nat→V) (hE:GExp G) (sl:Sl Tk) (hT:TkOk sl.l) (g:Nat):∀ (f:Nat) (n:Int) (r:RS),1≤n→n≤9→sl.l.length<f+r.i→RSok sl.l r →
  RdS 1031 [.func (.func 56) [] []] G 56 [.int .i64 n] sl g r (.bool (climbP sl.l f n r).1) (climbP sl.l f n r).2:=by
 have hG:=hE.ok
 have hTl:=hT.len
 intro f
 induction f with
 | zero=>intro n r _ _ hf hr;have:=hr.1;omega
 | succ f ih =>
 intro n r hn1 hn9 hf hr gx
 have hin:∀ i0,r.i≤i0→InnerS G sl g (climbP sl.l f) i0:=fun i0 hi0 n' r' h1 h9 hi hr'=>ih n' r' h1 h9 (by omega) hr'
 have hbs:=climbP_bal sl.l f
 have hP:climbP sl.l (f+1) n r=andThen (aheadP sl.l (climbP sl.l f) r) (loopP sl.l (climbP sl.l f) n (sl.l.length+1)):=rfl
 generalize climbP sl.l (f+1) n r=res at hP ⊢
 refine Spec.of_code' 1000 65 [.tmp 4] Tryz.func56 rfl rfl rfl rfl fun X=>?_
 have hah:=xAhead_spec G hE sl hT g r hr _ (hin r.i (Nat.le_refl _)) hbs
 have hab:=aheadP_bal hbs r
 generalize aheadP sl.l (climbP sl.l f) r=y at hP hah hab
 obtain ⟨b,q0⟩:=y
 simp only at hah hab
 refine AW.seq_k fun K hK=>AW.region (by kernel_rfl) ?_
 simp -implicitDefEqProofs only[go_sem,seval,↓reduceIte]
 refine hK _ ?_
 clear hK K
 refine AW.seq_k fun K1 hK1=>?_
 cases b with
 | false =>
  rw [andThen_false] at hP
  refine AW.seq_k fun K hK=>AW.region (by kernel_rfl) ?_
  simp -implicitDefEqProofs only[go_sem,seval,↓reduceIte]
  refine RdS.call hG (hah) (gx:=gx) (by kernel_rfl) (fun F=>rfl) (by decide) (by first | rfl | (simp -implicitDefEqProofs only[go_sem,seval,↓reduceIte,List.map_cons,List.map_nil,encXN_K];try rfl)) (by first | rfl | (simp -implicitDefEqProofs only[go_sem,seval,↓reduceIte,List.map_cons,List.map_nil];try rfl)) (by first | rfl | (simp -implicitDefEqProofs only[go_sem,seval,↓reduceIte];try rfl)) (by first | rfl | (simp -implicitDefEqProofs only[go_sem,seval,↓reduceIte];try rfl)) fun gx1=>?_
  simp -implicitDefEqProofs only[go_sem,seval,↓reduceIte,sets]
  refine hK _ ?_
  clear hK K
  refine AW.condS (by simp -implicitDefEqProofs only[go_sem,seval,↓reduceIte];rfl) (fun h2=>?_) (fun h2=>?_)
  ·refine AW.seq_k fun K hK=>AW.region (by kernel_rfl) ?_
   simp -implicitDefEqProofs only[go_sem,seval,↓reduceIte]
   refine hK _ ?_
   clear hK K
   refine AW.ret ?_
   simp -implicitDefEqProofs only[go_sem,seval,↓reduceIte]
   refine endK_some ?_
   rw [hP]
   exact ⟨rfl,gx1,by first | rfl | (simp -implicitDefEqProofs only[go_sem,seval,↓reduceIte];try rfl),by first | rfl | (simp -implicitDefEqProofs only[go_sem,seval,↓reduceIte];try rfl)⟩
  ·cases h2
 | true =>
 rw [andThen_true] at hP
 have hq0:=hab.ok hr
 refine AW.seq_k fun K hK=>AW.region (by kernel_rfl) ?_
 simp -implicitDefEqProofs only[go_sem,seval,↓reduceIte]
 refine RdS.call hG (hah) (gx:=gx) (by kernel_rfl) (fun F=>rfl) (by decide) (by first | rfl | (simp -implicitDefEqProofs only[go_sem,seval,↓reduceIte,List.map_cons,List.map_nil,encXN_K];try rfl)) (by first | rfl | (simp -implicitDefEqProofs only[go_sem,seval,↓reduceIte,List.map_cons,List.map_nil];try rfl)) (by first | rfl | (simp -implicitDefEqProofs only[go_sem,seval,↓reduceIte];try rfl)) (by first | rfl | (simp -implicitDefEqProofs only[go_sem,seval,↓reduceIte];try rfl)) fun gx1=>?_
 simp -implicitDefEqProofs only[go_sem,seval,↓reduceIte,sets]
 refine hK _ ?_
 clear hK K
 refine AW.condS (by simp -implicitDefEqProofs only[go_sem,seval,↓reduceIte];rfl) (fun h2=>?_) (fun h2=>?_)
 ·cases h2
 refine AW.skip ?_
 simp -implicitDefEqProofs only[go_sem,seval,↓reduceIte]
 refine hK1 _ ?_
 refine AW.seq_k fun K hK=>AW.region (by kernel_rfl) ?_
 simp -implicitDefEqProofs only[go_sem,seval,↓reduceIte]
 refine CallA.pure hG (by kernel_rfl) ?_
 simp -implicitDefEqProofs only[go_sem,seval,↓reduceIte,List.map_nil]
 refine (xTable_spec G hG).mono ?_
 rintro _ _ rfl
 simp -implicitDefEqProofs only[go_sem,seval,↓reduceIte,tabC_rc,tabC_len,Nat.le_refl]
 intro g5
 rw [setAt_tab _ ?hl]
 case hl=>rfl
 refine hK _ ?_
 clear hK K
 refine AW.block ?_
 refine AW.while (fun (x:Nat × Nat × RS)=>st [(0,.ptr 8 g 0),(1,.int .i64 n),(5,.ptr 1005 g5 0)] [(1005,.cells .new g5 0 tabC),(8,rdO 1031 [.func (.func 56) [] []] sl g x.1 x.2.2),(1031,ndO x.1 x.2.2.nodes)])
  (fun x=>res=loopP sl.l (climbP sl.l f) n x.2.1 x.2.2∧RSok sl.l x.2.2∧r.i≤x.2.2.i∧sl.l.length<x.2.1+x.2.2.i) (fun x=>x.2.1) (gx1,sl.l.length+1,q0) ⟨hP,hq0,hab.up,Nat.lt_add_right _ (Nat.lt_succ_self _)⟩
  (Weak.st (by simp -implicitDefEqProofs only[go_sem,seval,↓reduceIte]) (by simp -implicitDefEqProofs only[go_sem,seval,↓reduceIte];try rfl)) ?_
 clear hP
 rintro ⟨gy,m,q⟩ ⟨hP,hq,hqi,hm⟩ L3 hL3
 replace hP:res=loopP sl.l (climbP sl.l f) n m q:=hP
 replace hq:RSok sl.l q:=hq
 replace hqi:r.i≤q.i:=hqi
 replace hm:sl.l.length<m+q.i:=hm
 obtain ⟨m,rfl⟩:∃ m',m=m'+1:=⟨m-1,by have:=hq.1;omega⟩
 have hqI:q.i<1000000:=by have:=hq.1;omega
 have hqn:q.nodes.length<1000000:=by have:=hq.1;have:=hq.2;omega
 rw [loopP_succ] at hP
 have hop:=ofP_opAt (l:=sl.l) (i:=q.i)
 have hlt23:=ofP_lt (nextP sl.l q.i).text 2
 have htl:=nextP_len hT q.i
 have hbnd:∀ op,opAt sl.l q.i=some op→1≤lvl op∧lvl op≤8:=fun op h=>by have:=op_pos h;exact ⟨this.2.2.1,this.2.2.2⟩
 have hilt:∀ op,opAt sl.l q.i=some op→q.i<sl.l.length:=fun op h=>opAt_lt h
 refine AW.block ?_
 refine AW.seq_k fun K hK=>AW.region (by kernel_rfl) ?_
 simp -implicitDefEqProofs only[go_sem,seval,↓reduceIte]
 refine RdS.call hG (xNext_spec G hE sl hT g q hqI) (gx:=gy) (by kernel_rfl) (fun F=>rfl) (by decide) (by first | rfl | (simp -implicitDefEqProofs only[go_sem,seval,↓reduceIte,List.map_cons,List.map_nil,encXN_K];try rfl)) (by first | rfl | (simp -implicitDefEqProofs only[go_sem,seval,↓reduceIte,List.map_cons,List.map_nil];try rfl)) (by first | rfl | (simp -implicitDefEqProofs only[go_sem,seval,↓reduceIte];try rfl)) (by first | rfl | (simp -implicitDefEqProofs only[go_sem,seval,↓reduceIte];try rfl)) fun gz=>?_
 simp -implicitDefEqProofs only[go_sem,seval,↓reduceIte,sets]
 simp -implicitDefEqProofs only[go_sem,seval,↓reduceIte,encTk_K]
 intro g6
 refine hK _ ?_
 clear hK K
 generalize opAt sl.l q.i=oa at hP hop hbnd hilt
 generalize nextP sl.l q.i=t at hop hlt23 htl ⊢
 obtain ⟨k,t,p⟩:=t
 simp only at hop hlt23 htl
 refine AW.seq_k fun K hK=>AW.region (by kernel_rfl) ?_
 simp -implicitDefEqProofs only[go_sem,seval,↓reduceIte]
 refine CallA.pure hG (by kernel_rfl) ?_
 simp -implicitDefEqProofs only[go_sem,seval,↓reduceIte]
 refine (xOf_spec G hG t 2).mono ?_
 rintro _ _ rfl
 generalize ofP t 2=o2 at hop hlt23 ⊢
 obtain ⟨op,ok⟩:=o2
 simp only at hop hlt23
 simp -implicitDefEqProofs only[go_sem,seval,↓reduceIte,encOf]
 refine hK _ ?_
 clear hK K
 have hlv:=tabC_lvl op hlt23
 have hi23:(op:Int)<23:=by omega
 refine AW.seq_k fun K hK=>AW.region (by kernel_rfl) ?_
 simp -implicitDefEqProofs only[go_sem,seval,↓reduceIte,hi23,Int.natCast_nonneg,hlv,Nat.zero_add]
 refine hK _ ?_
 clear hK K
 refine AW.seq_k fun K8 hK8=>?_
 cases ok with
 | false =>
  rw [hop.1 (.inr rfl)] at hP
  refine AW.seq_k fun K hK=>AW.region (by kernel_rfl) ?_
  simp -implicitDefEqProofs only[go_sem,seval,↓reduceIte]
  refine hK _ ?_
  clear hK K
  refine AW.condS (by simp -implicitDefEqProofs only[go_sem,seval,↓reduceIte];rfl) (fun h9=>?_) (fun h9=>?_)
  ·refine AW.seq_k fun K hK=>AW.region (by kernel_rfl) ?_
   simp -implicitDefEqProofs only[go_sem,seval,↓reduceIte]
   refine hK _ ?_
   clear hK K
   refine AW.ret ?_
   simp -implicitDefEqProofs only[go_sem,seval,↓reduceIte]
   refine endK_some ?_
   rw [hP]
   exact ⟨rfl,gz,by first | rfl | (simp -implicitDefEqProofs only[go_sem,seval,↓reduceIte];try rfl),by first | rfl | (simp -implicitDefEqProofs only[go_sem,seval,↓reduceIte];try rfl)⟩
  ·cases h9
 | true =>
 by_cases hk:k=0
 ·have e1:(k==0)=true:=by simpa using hk
  rw [hop.1 (.inl hk)] at hP
  refine AW.seq_k fun K hK=>AW.region (by kernel_rfl) ?_
  simp -implicitDefEqProofs only[go_sem,seval,↓reduceIte,e1]
  refine hK _ ?_
  clear hK K
  refine AW.condS (by simp -implicitDefEqProofs only[go_sem,seval,↓reduceIte];rfl) (fun h9=>?_) (fun h9=>?_)
  ·refine AW.seq_k fun K hK=>AW.region (by kernel_rfl) ?_
   simp -implicitDefEqProofs only[go_sem,seval,↓reduceIte]
   refine hK _ ?_
   clear hK K
   refine AW.ret ?_
   simp -implicitDefEqProofs only[go_sem,seval,↓reduceIte]
   refine endK_some ?_
   rw [hP]
   exact ⟨rfl,gz,by first | rfl | (simp -implicitDefEqProofs only[go_sem,seval,↓reduceIte];try rfl),by first | rfl | (simp -implicitDefEqProofs only[go_sem,seval,↓reduceIte];try rfl)⟩
  ·cases h9
 have e1:(k==0)=false:=by simpa using hk
 have hoa:=hop.2 hk rfl
 rw [hoa] at hP
 simp only at hP
 obtain ⟨hl1,hl8⟩:=hbnd op hoa
 have hil:=hilt op hoa
 generalize lvl op=lv at hP hl1 hl8 ⊢
 by_cases hlt:lv<n
 ·have e2:decide (lv<n)=true:=by simpa using hlt
  rw [if_pos hlt] at hP
  refine AW.seq_k fun K hK=>AW.region (by kernel_rfl) ?_
  simp -implicitDefEqProofs only[go_sem,seval,↓reduceIte,e1,e2]
  refine hK _ ?_
  clear hK K
  refine AW.condS (by simp -implicitDefEqProofs only[go_sem,seval,↓reduceIte];rfl) (fun h9=>?_) (fun h9=>?_)
  ·refine AW.seq_k fun K hK=>AW.region (by kernel_rfl) ?_
   simp -implicitDefEqProofs only[go_sem,seval,↓reduceIte]
   refine hK _ ?_
   clear hK K
   refine AW.ret ?_
   simp -implicitDefEqProofs only[go_sem,seval,↓reduceIte]
   refine endK_some ?_
   rw [hP]
   exact ⟨rfl,gz,by first | rfl | (simp -implicitDefEqProofs only[go_sem,seval,↓reduceIte];try rfl),by first | rfl | (simp -implicitDefEqProofs only[go_sem,seval,↓reduceIte];try rfl)⟩
  ·cases h9
 have e2:decide (lv<n)=false:=by simpa using hlt
 rw [if_neg hlt] at hP
 refine AW.seq_k fun K hK=>AW.region (by kernel_rfl) ?_
 simp -implicitDefEqProofs only[go_sem,seval,↓reduceIte,e1,e2]
 refine hK _ ?_
 clear hK K
 refine AW.condS (by simp -implicitDefEqProofs only[go_sem,seval,↓reduceIte];rfl) (fun h9=>?_) (fun h9=>?_)
 ·cases h9
 refine AW.skip ?_
 simp -implicitDefEqProofs only[go_sem,seval,↓reduceIte]
 refine hK8 _ ?_
 have hw:IntKind.i64.wrap ((q.i:Int)+1)=((q.i+1:Nat):Int):=by rw [w64 (by omega) (by omega)];omega
 have hw2:IntKind.i64.wrap (lv+1)=lv+1:=w64 (by omega) (by omega)
 have hadv:RSok sl.l q.adv:=(Bal.adv hil).ok hq
 have hc:=ih (lv+1) q.adv (by omega) (by omega) (by show sl.l.length<f+(q.i+1);omega) hadv
 have hcb:=hbs (lv+1) q.adv
 generalize climbP sl.l f (lv+1) q.adv=z at hP hc hcb
 obtain ⟨b,a⟩:=z
 simp only at hc hcb
 have ha:=hcb.ok hadv
 have haup:q.i+1≤a.i:=hcb.up
 have han:a.nodes.length<1000000:=by have:=ha.1;have:=ha.2;omega
 refine AW.seq_k fun K hK=>AW.region (by kernel_rfl) ?_
 simp -implicitDefEqProofs only[go_sem,seval,↓reduceIte]
 refine RdS.call hG (xLast_spec G hG sl g q hqn) (gx:=gz) (by kernel_rfl) (fun F=>rfl) (by decide) (by first | rfl | (simp -implicitDefEqProofs only[go_sem,seval,↓reduceIte,List.map_cons,List.map_nil,encXN_K];try rfl)) (by first | rfl | (simp -implicitDefEqProofs only[go_sem,seval,↓reduceIte,List.map_cons,List.map_nil];try rfl)) (by first | rfl | (simp -implicitDefEqProofs only[go_sem,seval,↓reduceIte];try rfl)) (by first | rfl | (simp -implicitDefEqProofs only[go_sem,seval,↓reduceIte];try rfl)) fun gz1=>?_
 simp -implicitDefEqProofs only[go_sem,seval,↓reduceIte,sets]
 refine hK _ ?_
 clear hK K
 refine AW.seq_k fun K hK=>AW.region (by kernel_rfl) ?_
 simp -implicitDefEqProofs only[go_sem,seval,↓reduceIte,rdO_K,hw]
 refine hK _ ?_
 clear hK K
 refine AW.seq_k fun K10 hK10=>?_
 cases b with
 | false =>
  rw [andThen_false] at hP
  refine AW.seq_k fun K hK=>AW.region (by kernel_rfl) ?_
  simp -implicitDefEqProofs only[go_sem,seval,↓reduceIte,rdO_K,hw2]
  refine RdS.call hG (hc) (gx:=gz1) (by kernel_rfl) (fun F=>rfl) (by decide) (by first | rfl | (simp -implicitDefEqProofs only[go_sem,seval,↓reduceIte,List.map_cons,List.map_nil,encXN_K];try rfl)) (by first | rfl | (simp -implicitDefEqProofs only[go_sem,seval,↓reduceIte,List.map_cons,List.map_nil];try rfl)) (by first | rfl | (simp -implicitDefEqProofs only[go_sem,seval,↓reduceIte];try rfl)) (by first | rfl | (simp -implicitDefEqProofs only[go_sem,seval,↓reduceIte];try rfl)) fun gz2=>?_
  simp -implicitDefEqProofs only[go_sem,seval,↓reduceIte,sets]
  refine hK _ ?_
  clear hK K
  refine AW.condS (by simp -implicitDefEqProofs only[go_sem,seval,↓reduceIte];rfl) (fun h11=>?_) (fun h11=>?_)
  ·refine AW.seq_k fun K hK=>AW.region (by kernel_rfl) ?_
   simp -implicitDefEqProofs only[go_sem,seval,↓reduceIte]
   refine hK _ ?_
   clear hK K
   refine AW.ret ?_
   simp -implicitDefEqProofs only[go_sem,seval,↓reduceIte]
   refine endK_some ?_
   rw [hP]
   exact ⟨rfl,gz2,by first | rfl | (simp -implicitDefEqProofs only[go_sem,seval,↓reduceIte];try rfl),by first | rfl | (simp -implicitDefEqProofs only[go_sem,seval,↓reduceIte];try rfl)⟩
  ·cases h11
 | true =>
  rw [andThen_true] at hP
  refine AW.seq_k fun K hK=>AW.region (by kernel_rfl) ?_
  simp -implicitDefEqProofs only[go_sem,seval,↓reduceIte,rdO_K,hw2]
  refine RdS.call hG (hc) (gx:=gz1) (by kernel_rfl) (fun F=>rfl) (by decide) (by first | rfl | (simp -implicitDefEqProofs only[go_sem,seval,↓reduceIte,List.map_cons,List.map_nil,encXN_K];try rfl)) (by first | rfl | (simp -implicitDefEqProofs only[go_sem,seval,↓reduceIte,List.map_cons,List.map_nil];try rfl)) (by first | rfl | (simp -implicitDefEqProofs only[go_sem,seval,↓reduceIte];try rfl)) (by first | rfl | (simp -implicitDefEqProofs only[go_sem,seval,↓reduceIte];try rfl)) fun gz2=>?_
  simp -implicitDefEqProofs only[go_sem,seval,↓reduceIte,sets]
  refine hK _ ?_
  clear hK K
  refine AW.condS (by simp -implicitDefEqProofs only[go_sem,seval,↓reduceIte];rfl) (fun h11=>?_) (fun h11=>?_)
  ·cases h11
  refine AW.skip ?_
  simp -implicitDefEqProofs only[go_sem,seval,↓reduceIte]
  refine hK10 _ ?_
  refine AW.region (by kernel_rfl) ?_
  simp -implicitDefEqProofs only[go_sem,seval,↓reduceIte]
  refine RdS.call hG (xLast_spec G hG sl g a han) (gx:=gz2) (by kernel_rfl) (fun F=>rfl) (by decide) (by first | rfl | (simp -implicitDefEqProofs only[go_sem,seval,↓reduceIte,List.map_cons,List.map_nil,encXN_K];try rfl)) (by first | rfl | (simp -implicitDefEqProofs only[go_sem,seval,↓reduceIte,List.map_cons,List.map_nil];try rfl)) (by first | rfl | (simp -implicitDefEqProofs only[go_sem,seval,↓reduceIte];try rfl)) (by first | rfl | (simp -implicitDefEqProofs only[go_sem,seval,↓reduceIte];try rfl)) fun gz3=>?_
  simp -implicitDefEqProofs only[go_sem,seval,↓reduceIte,sets]
  intro g63
  refine CallA.frzL (fun o=>o==1063) [.ptr 8 g 0,encXN ⟨op,0,[],0,0,0⟩,.slice .new false 1 [.int .i64 q.last,.int .i64 a.last]] [(8,rdO 1031 [.func (.func 56) [] []] sl g gz3 a),(1031,ndO gz3 a.nodes),(1005,.cells .new g5 0 tabC)] ⟨Fz.same _,Fz.same _,?_,trivial⟩ ?_ ?_
  ·exact Fz.sl (f:=V.int .i64) (l:=[q.last,a.last]) (m:=1) (g:=g63) (fz:=0) (c := .new) rfl (by simp -implicitDefEqProofs only[go_sem,seval,↓reduceIte];rfl) (fun _=>rfl)
  ·simp only [allFzO_cons,allFzO_nil,and_true]
   exact ⟨FzO.keep rfl (by simp -implicitDefEqProofs only[go_sem,seval,↓reduceIte];try rfl),FzO.keep rfl (by simp -implicitDefEqProofs only[go_sem,seval,↓reduceIte];try rfl),FzO.keep rfl (by simp -implicitDefEqProofs only[go_sem,seval,↓reduceIte];try rfl)⟩
  refine RdS.call hG (xPut_spec G hG sl g a han ⟨op,0,[],0,0,0⟩ .old (.mk false [q.last,a.last]) (Nat.le_of_ble_eq_true rfl)) (gx:=gz3) (by kernel_rfl) (fun F=>rfl) (by decide) (by first | rfl | (simp -implicitDefEqProofs only[go_sem,seval,↓reduceIte,List.map_cons,List.map_nil,encXN_K];try rfl)) (by first | rfl | (simp -implicitDefEqProofs only[go_sem,seval,↓reduceIte,List.map_cons,List.map_nil];try rfl)) (by first | rfl | (simp -implicitDefEqProofs only[go_sem,seval,↓reduceIte];try rfl)) (by first | rfl | (simp -implicitDefEqProofs only[go_sem,seval,↓reduceIte];try rfl)) fun gz4=>?_
  simp -implicitDefEqProofs only[go_sem,seval,↓reduceIte,sets]
  have hres:RSok sl.l (a.put ⟨op,0,[],q.last,a.last,-1⟩):=⟨ha.1,by
   have h1:=hcb.cnt
   have h2:=hq.2
   show (a.nodes++[_]).length≤a.i
   rw [List.length_append,List.length_singleton]
   have h3:a.nodes.length+(q.i+1)+0≤q.nodes.length+a.i:=h1
   omega⟩
  refine hL3 _ ⟨(gz4,m,a.put ⟨op,0,[],q.last,a.last,-1⟩),Nat.lt_succ_self _,⟨hP,hres,?_,?_⟩,Weak.st (by simp -implicitDefEqProofs only[go_sem,seval,↓reduceIte]) (by simp -implicitDefEqProofs only[go_sem,seval,↓reduceIte];exact ⟨rfl,rfl⟩)⟩
  ·show r.i≤a.i
   omega
  ·show sl.l.length<m+a.i
   omega
end Go.Hs
end

section
namespace Go.Hs
open Go.Proofs
set_option maxRecDepth 10000
theorem sEqual_spec (G:Nat→V) (hG:GOk G) (ca cb:Col) (a b:Sl Int) (ha:a.l.length<1000000000) :
  Spec Tryz.prog G 63 [encSl ca 1 (V.int .i64) a,encSl cb 1 (V.int .i64) b] hNone (fun v _=>v = .bool (a.l==b.l)):=by
 refine Spec.of_code' 0 26 [.tmp 4] Tryz.func63 rfl rfl rfl rfl fun X=>?_
 refine AW.seq_k fun K hK=>AW.region (by kernel_rfl) ?_
 simp -implicitDefEqProofs only[go_sem,seval,↓reduceIte]
 refine hK _ ?_
 clear hK K
 refine AW.seq_k fun K1 hK1=>?_
 refine AW.seq_k fun K hK=>AW.region (by kernel_rfl) ?_
 simp -implicitDefEqProofs only[go_sem,seval,↓reduceIte]
 refine hK _ ?_
 clear hK K
 refine AW.condS (by simp -implicitDefEqProofs only[go_sem,seval,↓reduceIte];rfl) (fun h2=>?_) (fun h2=>?_)
 ·
  refine AW.seq_k fun K hK=>AW.region (by kernel_rfl) ?_
  simp -implicitDefEqProofs only[go_sem,seval,↓reduceIte]
  refine hK _ ?_
  clear hK K
  refine AW.ret ?_
  simp -implicitDefEqProofs only[go_sem,seval,↓reduceIte]
  refine endK_some ?_
  simp at h2 ⊢
  intro e
  rw [e] at h2
  exact h2 rfl
 ·
  refine AW.skip ?_
  simp -implicitDefEqProofs only[go_sem,seval,↓reduceIte]
  refine hK1 _ ?_
  have hl:a.l.length=b.l.length:=by simp at h2;omega
  refine AW.seq_k fun K3 hK3=>?_
  refine AW.seq_k fun K hK=>AW.region (by kernel_rfl) ?_
  simp -implicitDefEqProofs only[go_sem,seval,↓reduceIte]
  refine hK _ ?_
  clear hK K
  refine AW.block ?_
  refine AW.for a.l.length (fun k (_:Unit)=>st [(0,encSl ca 1 (V.int .i64) a),(1,encSl cb 1 (V.int .i64) b),(12,.int .i64 a.l.length),(13,.int .i64 k)] []) (fun k _=>a.l.take k=b.l.take k) 0 () (Nat.zero_le _) (by simp)
   (Weak.st (by simp -implicitDefEqProofs only[go_sem,seval,↓reduceIte];try simp) (by simp -implicitDefEqProofs only[go_sem,seval,↓reduceIte])) ?_
  intro k _ hk hR L4 hL4
  refine AW.seq_k fun K hK=>AW.region (by kernel_rfl) ?_
  simp -implicitDefEqProofs only[go_sem,seval,↓reduceIte]
  refine hK _ ?_
  clear hK K
  refine AW.seq_k fun K5 hK5=>?_
  refine AW.condS (by simp -implicitDefEqProofs only[go_sem,seval,↓reduceIte];rfl) (fun h6=>?_) (fun h6=>?_)
  ·
   refine AW.skip ?_
   simp -implicitDefEqProofs only[go_sem,seval,↓reduceIte]
   refine hK5 _ ?_
   have hk1:k<a.l.length:=by simpa using h6
   have hk2:k<b.l.length:=by omega
   refine AW.seq_k fun K7 hK7=>?_
   refine AW.block ?_
   refine AW.seq_k fun K hK=>AW.region (by kernel_rfl) ?_
   simp -implicitDefEqProofs only[go_sem,seval,↓reduceIte]
   refine hK _ ?_
   clear hK K
   refine AW.seq_k fun K hK=>AW.regionT ⟨fun _ => .top,fun _ => .pure⟩ (by kernel_rfl) hG (by kernel_rfl) (by kernel_rfl) ?_
   simp -implicitDefEqProofs only[go_sem,seval,↓reduceIte,List.getElem?_eq_getElem hk1,List.getElem?_eq_getElem hk2]
   refine hK _ ?_
   clear hK K
   refine AW.condS (by simp -implicitDefEqProofs only[go_sem,seval,↓reduceIte];rfl) (fun h8=>?_) (fun h8=>?_)
   ·
    refine AW.seq_k fun K hK=>AW.region (by kernel_rfl) ?_
    simp -implicitDefEqProofs only[go_sem,seval,↓reduceIte]
    refine hK _ ?_
    clear hK K
    refine AW.ret ?_
    simp -implicitDefEqProofs only[go_sem,seval,↓reduceIte]
    refine endK_some ?_
    simp at h8
    simp
    intro e
    simp [e] at h8
   ·
    refine AW.skip ?_
    simp -implicitDefEqProofs only[go_sem,seval,↓reduceIte]
    refine hK7 _ ?_
    have h3':a.l[k]=b.l[k]:=by simpa using h8
    refine AW.region (by kernel_rfl) ?_
    simp -implicitDefEqProofs only[go_sem,seval,↓reduceIte]
    refine hL4 _ ⟨hk1,(),?_,Weak.st (by simp -implicitDefEqProofs only[go_sem,seval,↓reduceIte];simp;exact w64 (by omega) (by omega)) (by simp -implicitDefEqProofs only[go_sem,seval,↓reduceIte])⟩
    rw [List.take_succ_eq_append_getElem hk1,List.take_succ_eq_append_getElem hk2,hR,h3']
  ·
   refine AW.exit ?_
   simp -implicitDefEqProofs only[go_sem,seval,↓reduceIte]
   refine hK3 _ ?_
   have hk1:k=a.l.length:=by simp at h6;omega
   refine AW.seq_k fun K hK=>AW.region (by kernel_rfl) ?_
   simp -implicitDefEqProofs only[go_sem,seval,↓reduceIte]
   refine hK _ ?_
   clear hK K
   refine AW.ret ?_
   simp -implicitDefEqProofs only[go_sem,seval,↓reduceIte]
   refine endK_some ?_
   subst hk1
   rw [List.take_length,hl,List.take_length] at hR
   simp [hR]
theorem xWell_spec (G:Nat→V) (hE:GExp G) (n:XN) (hn:n.name.length<100000):Spec Tryz.prog G 62 [encXN n] hNone (fun v _=>v = .bool (wellP n)):=by
 have hG:=hE.ok
 refine Spec.of_code' 0 43 [.tmp 2] Tryz.func62 rfl rfl rfl rfl fun X=>?_
 have hW:wellP n=if n.op<1∨n.op > 22∨n.num<0 then false else if n.op=2 then n.num==0 && isP n.name==2 else n.name==[] && (n.op==1 || n.num==0):=rfl
 obtain ⟨op,num,name,a,b,c⟩:=n
 simp only at hn hW
 simp only [encXN_K]
 refine AW.seq_k fun K hK=>AW.region (by kernel_rfl) ?_
 simp -implicitDefEqProofs only[go_sem,seval,↓reduceIte]
 intro g1
 refine hK _ ?_
 clear hK K
 refine AW.seqJ (fun (_:Unit)=>st [(1,.ptr 1 g1 0)] [(1,.cells .new g1 0 [.int .u8 op,.int .i64 num,.str name,.int .i64 a,.int .i64 b,.int .i64 c])]) (fun _=>¬ (op<1∨op > 22∨num<0)∧op≠2) (fun K1 hK1=>?_) ?_
 ·refine AW.block ?_
  by_cases h0:op<1∨op > 22∨num<0
  ·rw [if_pos h0] at hW
   have key:∀ K:AS→Prop,(K (st [(1,.ptr 1 g1 0),(3,.bool true)] [(1,.cells .new g1 0 [.int .u8 op,.int .i64 num,.str name,.int .i64 a,.int .i64 b,.int .i64 c])]))→True:=fun _ _=>trivial
   cases h1:decide (op<1)<;>cases h2:decide (op > 22)<;>cases h3:decide (num<0)
   ·simp only [decide_eq_false_iff_not] at h1 h2 h3
    rcases h0 with h | h | h
    ·exact absurd h h1
    ·exact absurd h h2
    ·exact absurd h h3
   all_goals
    (refine AW.seq_k fun K hK=>AW.region (by kernel_rfl) ?_;simp -implicitDefEqProofs only[go_sem,seval,↓reduceIte,h1,h2,h3];refine hK _ ?_;clear hK K)
    refine AW.condS (b:=true) (by simp -implicitDefEqProofs only[go_sem,seval,↓reduceIte]) (fun _=>?_) (fun h=>by cases h)
    (refine AW.seq_k fun K hK=>AW.region (by kernel_rfl) ?_;simp -implicitDefEqProofs only[go_sem,seval,↓reduceIte];refine hK _ ?_;clear hK K)
    (refine AW.ret ?_;simp -implicitDefEqProofs only[go_sem,seval,↓reduceIte];refine endK_some ?_)
    rw [hW]
  ·have h1:decide (op<1)=false:=by rw [decide_eq_false_iff_not];exact fun h=>h0 (.inl h)
   have h2:decide (op > 22)=false:=by rw [decide_eq_false_iff_not];exact fun h=>h0 (.inr (.inl h))
   have h3:decide (num<0)=false:=by rw [decide_eq_false_iff_not];exact fun h=>h0 (.inr (.inr h))
   rw [if_neg h0] at hW
   refine AW.seq_k fun K hK=>AW.region (by kernel_rfl) ?_
   simp -implicitDefEqProofs only[go_sem,seval,↓reduceIte,h1,h2,h3]
   refine hK _ ?_
   clear hK K
   refine AW.condS (by simp -implicitDefEqProofs only[go_sem,seval,↓reduceIte];rfl) (fun h4=>?_) (fun h4=>?_)
   ·cases h4
   clear h4
   refine AW.seq_k fun K hK=>AW.region (by kernel_rfl) ?_
   simp -implicitDefEqProofs only[go_sem,seval,↓reduceIte]
   refine hK _ ?_
   clear hK K
   refine AW.condS (by simp -implicitDefEqProofs only[go_sem,seval,↓reduceIte];rfl) (fun h5=>?_) (fun h5=>?_)
   ·have h5:op=2:=by simpa using h5
    rw [if_pos h5] at hW
    cases h6:(num==0) with
    | false =>
     refine AW.seq_k fun K hK=>AW.region (by kernel_rfl) ?_
     simp -implicitDefEqProofs only[go_sem,seval,↓reduceIte,h6]
     refine hK _ ?_
     clear hK K
     refine AW.ret ?_
     simp -implicitDefEqProofs only[go_sem,seval,↓reduceIte]
     refine endK_some ?_
     rw [hW,h6];rfl
    | true =>
     refine AW.seq_k fun K hK=>AW.region (by kernel_rfl) ?_
     simp -implicitDefEqProofs only[go_sem,seval,↓reduceIte,h6]
     refine CallA.pure hG (by kernel_rfl) ?_
     simp -implicitDefEqProofs only[go_sem,seval,↓reduceIte]
     refine (lIs_spec G hE name hn).mono ?_
     rintro _ _ rfl
     simp -implicitDefEqProofs only[go_sem,seval,↓reduceIte]
     refine hK _ ?_
     clear hK K
     refine AW.ret ?_
     simp -implicitDefEqProofs only[go_sem,seval,↓reduceIte]
     refine endK_some ?_
     rw [hW,h6,Bool.true_and]
     generalize isP name=z
     cases hz:(z==2) with
     | true =>
      have:((z:Int)==2)=true:=by rw [beq_iff_eq] at hz ⊢;omega
      rw [this]
     | false =>
      have:((z:Int)==2)=false:=by rw [beq_eq_false_iff_ne] at hz ⊢;omega
      rw [this]
   ·have h5:¬ op=2:=by simpa using h5
    refine AW.skip ?_
    simp -implicitDefEqProofs only[go_sem,seval,↓reduceIte]
    exact hK1 _ () ⟨h0,h5⟩ (Weak.st (by simp -implicitDefEqProofs only[go_sem,seval,↓reduceIte]) (by simp -implicitDefEqProofs only[go_sem,seval,↓reduceIte]))
 rintro _ ⟨h0,h5⟩
 rw [if_neg h0,if_neg h5] at hW
 cases h1:(name==[])<;>cases h2:(op==1)<;>cases h3:(num==0)<;>((refine AW.seq_k fun K hK=>AW.region (by kernel_rfl) ?_;simp -implicitDefEqProofs only[go_sem,seval,↓reduceIte,h1,h2,h3];refine hK _ ?_;clear hK K);(refine AW.ret ?_;simp -implicitDefEqProofs only[go_sem,seval,↓reduceIte];refine endK_some ?_);rw [hW,h1,h2,h3];rfl)
end Go.Hs
end

section
namespace Go.Hs
open Go.Proofs
set_option maxRecDepth 10000
def encPc (p:Int × Int):V := .agg [.int .i64 p.1,.int .i64 p.2]
theorem encPc_cells (p:Int × Int):(encPc p).cells.length=2:=rfl
theorem depGo_drop {l:List XN} {k:Nat} {n:XN} (h:l[k]? = some n) (i:Int) (opn:List (Int × Int)):depGo (l.drop k) i opn=match depStep i n opn with | some o=>depGo (l.drop (k+1)) (i+1) o | none=>none:=by
 obtain ⟨h1,h2⟩:=List.getElem?_eq_some_iff.1 h
 rw [List.drop_eq_getElem_cons h1,h2];rfl
theorem parts_tab {op:Int} (h1:1≤op) (h2:op≤22):tabC[op.toNat * 3+2]? = some (.int .i64 (partsOf op:Nat)):=by
 obtain ⟨n,rfl⟩:∃ n:Nat,op=n:=⟨op.toNat,by omega⟩
 rw [Int.toNat_natCast,tabC_get n (by omega) 2 (by decide)]
 have:∀ n:Nat,n<23→1≤n→(tabL.getD n ⟨[],0,0⟩).parts=(partsOf n:Nat):=by decide +kernel
 rw [← this n (by omega) (by omega)];rfl
theorem flat_pc:∀ (l:List (Int × Int)) (i:Nat) (x:Int × Int),l[i]? = some x→((flat (l.map encPc)).drop (i * 2)).take 2=[.int .i64 x.1,.int .i64 x.2]
 | [],i,x,h=>by simp at h
 | y::r,0,x,h=>by
  have:y=x:=by simpa using h
  subst this;rfl
 | y::r,i+1,x,h=>by
  have ih:=flat_pc r i x (by simpa using h)
  rw [← ih,List.map_cons]
  have:flat (encPc y::r.map encPc) = .int .i64 y.1 :: .int .i64 y.2::flat (r.map encPc):=rfl
  rw [this,show (i+1) * 2=i * 2+1+1 by omega,List.drop_succ_cons,List.drop_succ_cons]
def plC (l:List (Int × Int)):List V:=(places3 l).map (V.int .i64)
theorem plC_set:∀ (l:List (Int × Int)) (j:Nat) (x:Int × Int),l[j]? = some x→j<3→Hs.setAt (plC (l.take j)) j [.int .i64 x.1]=plC (l.take (j+1)):=by
 intro l j x h hj
 match l,j,h,hj with
 | a::r,0,h,_ =>
  have:a=x:=by simpa using h
  subst this;rfl
 | a::b::r,1,h,_ =>
  have:b=x:=by simpa using h
  subst this;rfl
 | a::b::c::r,2,h,_ =>
  have:c=x:=by simpa using h
  subst this;rfl
theorem deepest_succ (l:List (Int × Int)) (j:Nat) (x:Int × Int) (h:l[j]? = some x):deepest (l.take (j+1))=max (deepest (l.take j)) x.2:=by
 unfold deepest
 rw [List.take_add_one,h,List.foldl_append];rfl
theorem plC_len (l:List (Int × Int)):(plC l).length=3:=rfl
theorem partsOf_le (op:Int):partsOf op≤3:=by
 unfold partsOf
 split
 ·omega
 ·split
  ·omega
  ·split<;>omega
theorem deepest_le {l:List (Int × Int)} {k:Int} (hk:0≤k) (h:∀ y∈l,(0:Int)≤y.2∧y.2≤k):0≤deepest l∧deepest l≤k:=by
 have:∀ (l:List (Int × Int)) (d:Int),0≤d→d≤k→(∀ y∈l,(0:Int)≤y.2∧y.2≤k)→0≤l.foldl (fun d p=>max d p.2) d∧l.foldl (fun d p=>max d p.2) d≤k:=by
  intro l
  induction l with
  | nil=>intro d h1 h2 _;exact ⟨h1,h2⟩
  | cons y r ih =>
   intro d h1 h2 h3
   have:=h3 y (by simp)
   exact ih (max d y.2) (by omega) (by omega) fun z hz=>h3 z (by simp [hz])
 exact this l 0 (Int.le_refl _) hk h
theorem flat_take (l:List (Int × Int)) (n:Nat):(flat (l.map encPc)).take (n * 2)=flat ((l.take n).map encPc):=by
 induction l generalizing n with
 | nil=>simp [flat]
 | cons y r ih =>
  cases n with
  | zero=>simp [flat]
  | succ n =>
   have e:flat ((y::r).map encPc) = .int .i64 y.1 :: .int .i64 y.2::flat (r.map encPc):=rfl
   rw [e,List.take_succ_cons,List.map_cons,show (n+1) * 2=n * 2+1+1 by omega,List.take_succ_cons,List.take_succ_cons,ih];rfl
theorem xDepth_spec (G:Nat→V) (hE:GExp G) (c:Col) (s:Sl XN) (hs:s.l.length<1000000) (hnm:∀ n∈s.l,n.name.length<100000) :
  Spec Tryz.prog G 41 [.agg [encSl c 6 encXN s]] hNone (fun v _=>v = .int .i64 (depthP s.l)):=by
 have hG:=hE.ok
 refine Spec.of_code' 0 81 [.tmp 2] Tryz.func41 rfl rfl rfl rfl fun X=>?_
 have hD:depthP s.l=match depGo s.l 0 [] with | some [x]=>x.2 | _=>0:=rfl
 have hnone:depGo s.l 0 []=none→depthP s.l=0:=fun h=>by rw [hD,h]
 refine AW.seq_k fun K hK=>AW.region (by kernel_rfl) ?_
 simp -implicitDefEqProofs only[go_sem,seval,↓reduceIte]
 intro g1
 refine hK _ ?_
 clear hK K
 refine AW.seq_k fun K hK=>AW.region (by kernel_rfl) ?_
 simp -implicitDefEqProofs only[go_sem,seval,↓reduceIte]
 refine CallA.pure hG (by kernel_rfl) ?_
 simp -implicitDefEqProofs only[go_sem,seval,↓reduceIte,List.map_nil]
 refine (xTable_spec G hG).mono ?_
 rintro _ _ rfl
 simp -implicitDefEqProofs only[go_sem,seval,↓reduceIte,tabC_rc,tabC_len,Nat.le_refl]
 intro g3
 rw [setAt_tab _ ?hl]
 case hl=>rfl
 refine hK _ ?_
 clear hK K
 refine AW.seq_k fun K hK=>AW.region (by kernel_rfl) ?_
 simp -implicitDefEqProofs only[go_sem,seval,↓reduceIte]
 refine hK _ ?_
 clear hK K
 refine AW.seq_k fun K1 hK1=>?_
 refine AW.seq_k fun K hK=>AW.region (by kernel_rfl) ?_
 simp -implicitDefEqProofs only[go_sem,seval,↓reduceIte]
 refine hK _ ?_
 clear hK K
 refine AW.block ?_
 refine AW.for s.l.length (fun k (x:Nat × List (Int × Int))=>st [(3,.ptr 3 g3 0),(4,grown 72 x.1 2 x.2),(14,encSl c 6 encXN s),(15,.int .i64 s.l.length),(16,.int .i64 k)] [(3,.cells .new g3 0 tabC),(72,grownO x.1 encPc x.2)])
  (fun k x=>depGo s.l 0 []=depGo (s.l.drop k) k x.2∧x.2.length≤k∧∀ y∈x.2,(0:Int)≤y.2∧y.2≤k) 0 (0,[]) (Nat.zero_le _) ⟨by simp,Nat.le_refl _,by simp⟩
  (Weak.st (by simp -implicitDefEqProofs only[go_sem,seval,↓reduceIte];try rfl) (by simp -implicitDefEqProofs only[go_sem,seval,↓reduceIte];try rfl)) ?_
 rintro k ⟨gx,opn⟩ hk ⟨hR,hol,hdp⟩ L2 hL2
 replace hR:depGo s.l 0 []=depGo (s.l.drop k) k opn:=hR
 replace hol:opn.length≤k:=hol
 replace hdp:∀ y∈opn,(0:Int)≤y.2∧y.2≤k:=hdp
 refine AW.seq_k fun K hK=>AW.region (by kernel_rfl) ?_
 simp -implicitDefEqProofs only[go_sem,seval,↓reduceIte]
 refine hK _ ?_
 clear hK K
 refine AW.seq_k fun K3 hK3=>?_
 refine AW.condS (by simp -implicitDefEqProofs only[go_sem,seval,↓reduceIte];rfl) (fun h4=>?_) (fun h4=>?_)
 ·have hk1:k<s.l.length:=by simpa using h4
  have hg:=List.getElem?_eq_getElem hk1
  have hnn:=hnm _ (List.getElem_mem hk1)
  generalize s.l[k]=n at hg hnn
  rw [depGo_drop hg] at hR
  refine AW.skip ?_
  simp -implicitDefEqProofs only[go_sem,seval,↓reduceIte]
  refine hK3 _ ?_
  refine AW.seq_k fun K5 hK5=>?_
  refine AW.block ?_
  refine AW.seq_k fun K hK=>AW.region (by kernel_rfl) ?_
  simp -implicitDefEqProofs only[go_sem,seval,↓reduceIte,hg,encXN_K]
  intro g6
  refine hK _ ?_
  clear hK K
  refine AW.seq_k fun K6 hK6=>?_
  refine AW.seq_k fun K hK=>AW.region (by kernel_rfl) ?_
  simp -implicitDefEqProofs only[go_sem,seval,↓reduceIte]
  rw [← encXN_K]
  refine CallA.pure hG (by kernel_rfl) ?_
  simp -implicitDefEqProofs only[go_sem,seval,↓reduceIte,recol_xn]
  refine (xWell_spec G hE n hnn).mono ?_
  rintro _ _ rfl
  simp -implicitDefEqProofs only[go_sem,seval,↓reduceIte]
  refine hK _ ?_
  clear hK K
  have hst:depStep k n opn=if wellP n=false then none else if opn.length<partsOf n.op then none
   else if places3 (opn.drop (opn.length-partsOf n.op))≠[n.a,n.b,n.c] then none
   else some (opn.take (opn.length-partsOf n.op)++[((k:Int),deepest (opn.drop (opn.length-partsOf n.op))+1)]):=rfl
  cases hw:wellP n with
  | false =>
   rw [if_pos hw] at hst
   rw [hst] at hR
   refine AW.condS (by simp -implicitDefEqProofs only[go_sem,seval,↓reduceIte];rfl) (fun h7=>?_) (fun h7=>?_)
   ·refine AW.seq_k fun K hK=>AW.region (by kernel_rfl) ?_
    simp -implicitDefEqProofs only[go_sem,seval,↓reduceIte]
    refine hK _ ?_
    clear hK K
    refine AW.ret ?_
    simp -implicitDefEqProofs only[go_sem,seval,↓reduceIte]
    refine endK_some ?_
    rw [hnone hR]
   ·cases h7
  | true =>
  rw [if_neg (by rw [hw];simp)] at hst
  refine AW.condS (by simp -implicitDefEqProofs only[go_sem,seval,↓reduceIte];rfl) (fun h7=>?_) (fun h7=>?_)
  ·cases h7
  refine AW.skip ?_
  simp -implicitDefEqProofs only[go_sem,seval,↓reduceIte]
  refine hK6 _ ?_
  have hrg:=well_range hw
  have hpt:=parts_tab hrg.1 hrg.2
  have hp3:partsOf n.op≤3:=partsOf_le _
  generalize hpd:partsOf n.op=p at hst hpt hp3
  have hop0:(0:Int)≤n.op:=by omega
  have hop23:n.op<23:=by omega
  have hsub:IntKind.i64.wrap ((opn.length:Int)-(p:Int))=(opn.length:Int)-p:=w64 (by omega) (by omega)
  refine AW.seq_k fun K hK=>AW.region (by kernel_rfl) ?_
  simp -implicitDefEqProofs only[go_sem,seval,↓reduceIte,hop0,hop23,hpt,hsub,Nat.zero_add]
  refine hK _ ?_
  clear hK K
  refine AW.seq_k fun K8 hK8=>?_
  by_cases hlt:opn.length<p
  ·have e1:decide ((opn.length:Int)-p<0)=true:=by rw [decide_eq_true_iff];omega
   rw [if_pos hlt] at hst
   rw [hst] at hR
   refine AW.seq_k fun K hK=>AW.region (by kernel_rfl) ?_
   simp -implicitDefEqProofs only[go_sem,seval,↓reduceIte,e1]
   refine hK _ ?_
   clear hK K
   refine AW.condS (by simp -implicitDefEqProofs only[go_sem,seval,↓reduceIte];rfl) (fun h9=>?_) (fun h9=>?_)
   ·refine AW.seq_k fun K hK=>AW.region (by kernel_rfl) ?_
    simp -implicitDefEqProofs only[go_sem,seval,↓reduceIte]
    refine hK _ ?_
    clear hK K
    refine AW.ret ?_
    simp -implicitDefEqProofs only[go_sem,seval,↓reduceIte]
    refine endK_some ?_
    rw [hnone hR]
   ·cases h9
  have e1:decide ((opn.length:Int)-p<0)=false:=by rw [decide_eq_false_iff_not];omega
  rw [if_neg hlt] at hst
  refine AW.seq_k fun K hK=>AW.region (by kernel_rfl) ?_
  simp -implicitDefEqProofs only[go_sem,seval,↓reduceIte,e1]
  refine hK _ ?_
  clear hK K
  refine AW.condS (by simp -implicitDefEqProofs only[go_sem,seval,↓reduceIte];rfl) (fun h9=>?_) (fun h9=>?_)
  ·cases h9
  refine AW.skip ?_
  simp -implicitDefEqProofs only[go_sem,seval,↓reduceIte]
  refine hK8 _ ?_
  obtain ⟨kk,hkk⟩:∃ kk:Nat,kk=opn.length-p:=⟨_,rfl⟩
  rw [← hkk] at hst
  have hkd:(opn.length:Int)-p=(kk:Int):=by omega
  rw [hkd]
  refine AW.seq_k fun K hK=>AW.region (by kernel_rfl) ?_
  simp -implicitDefEqProofs only[go_sem,seval,↓reduceIte]
  intro g34
  refine hK _ ?_
  clear hK K
  have hkl:kk+p=opn.length:=by omega
  refine AW.seqJ (fun (_:Unit)=>st [(3,.ptr 3 g3 0),(4,grown 72 gx 2 opn),(5,.int .i64 k),(6,.ptr 6 g6 0),(7,.int .i64 kk),(8,.msl 34 g34 0 3 1),(9,.int .i64 (deepest (opn.drop kk))),(14,encSl c 6 encXN s),(15,.int .i64 s.l.length),(16,.int .i64 k)]
    [(3,.cells .new g3 0 tabC),(72,grownO gx encPc opn),(6,.cells .new g6 0 [.int .u8 n.op,.int .i64 n.num,.str n.name,.int .i64 n.a,.int .i64 n.b,.int .i64 n.c]),(34,.cells .new g34 0 (plC (opn.drop kk)))])
   (fun _=>True) (fun K10 hK10=>?_) ?_
  ·by_cases hp0:p=0
   ·have hdn:opn.drop kk=[]:=List.drop_eq_nil_of_le (by omega)
    rw [hdn] at hK10
    subst hp0
    have hkle:kk≤opn.length:=by omega
    have hnlt:¬ kk<opn.length:=by omega
    by_cases hne:opn=[]
    ·subst hne
     have hk0:kk=0:=by simpa using hkl
     subst hk0
     refine AW.seq_k fun K hK=>AW.region (by kernel_rfl) ?_
     simp -implicitDefEqProofs only[go_sem,seval,↓reduceIte,grown_nil,grownO_nil,and_self]
     refine hK _ ?_
     clear hK K
     refine AW.block ?_
     refine AW.for 0 (fun j (_:Unit)=>st [(3,.ptr 3 g3 0),(5,.int .i64 k),(4,.nils),(6,.ptr 6 g6 0),(7,.int .i64 (0:Nat)),(8,.msl 34 g34 0 3 1),(9,.int .i64 0),(14,encSl c 6 encXN s),(15,.int .i64 s.l.length),(16,.int .i64 k),(38,.int .i64 0),(39,.int .i64 j)]
       [(3,.cells .new g3 0 tabC),(6,.cells .new g6 0 [.int .u8 n.op,.int .i64 n.num,.str n.name,.int .i64 n.a,.int .i64 n.b,.int .i64 n.c]),(34,.cells .new g34 0 (plC []))])
      (fun j _=>True) 0 () (Nat.zero_le _) trivial (Weak.st (by simp -implicitDefEqProofs only[go_sem,seval,↓reduceIte];try rfl) (by simp -implicitDefEqProofs only[go_sem,seval,↓reduceIte];try rfl)) ?_
     intro j _ hj _ L11 hL11
     obtain rfl:j=0:=by omega
     refine AW.seq_k fun K hK=>AW.region (by kernel_rfl) ?_
     simp -implicitDefEqProofs only[go_sem,seval,↓reduceIte]
     refine hK _ ?_
     clear hK K
     refine AW.seq_k fun K12 hK12=>?_
     refine AW.condS (by simp -implicitDefEqProofs only[go_sem,seval,↓reduceIte];rfl) (fun h13=>?_) (fun h13=>?_)
     ·cases h13
     ·refine AW.exit ?_
      simp -implicitDefEqProofs only[go_sem,seval,↓reduceIte]
      exact hK10 _ () trivial (Weak.st (by simp -implicitDefEqProofs only[go_sem,seval,↓reduceIte,grown_nil];try rfl) (by simp -implicitDefEqProofs only[go_sem,seval,↓reduceIte,grownO_nil];try rfl))
    ·have hk0:¬ kk=0:=by
      intro h
      have:opn.length=0:=by omega
      exact hne (List.length_eq_zero_iff.1 this)
     refine AW.seq_k fun K hK=>AW.region (by kernel_rfl) ?_
     simp -implicitDefEqProofs only[go_sem,seval,↓reduceIte,grown_ne 72 gx 2 hne,hkle,Nat.le_refl,and_self,hk0,hnlt]
     refine hK _ ?_
     clear hK K
     refine AW.block ?_
     refine AW.for 0 (fun j (_:Unit)=>st [(3,.ptr 3 g3 0),(4,grown 72 gx 2 opn),(5,.int .i64 k),(6,.ptr 6 g6 0),(7,.int .i64 kk),(8,.msl 34 g34 0 3 1),(9,.int .i64 0),(14,encSl c 6 encXN s),(15,.int .i64 s.l.length),(16,.int .i64 k),(38,.int .i64 0),(39,.int .i64 j)]
       [(3,.cells .new g3 0 tabC),(72,grownO gx encPc opn),(6,.cells .new g6 0 [.int .u8 n.op,.int .i64 n.num,.str n.name,.int .i64 n.a,.int .i64 n.b,.int .i64 n.c]),(34,.cells .new g34 0 (plC []))])
      (fun j _=>True) 0 () (Nat.zero_le _) trivial (Weak.st (by simp -implicitDefEqProofs only[go_sem,seval,↓reduceIte];rw [grown_ne 72 gx 2 hne];try exact ⟨rfl,rfl⟩) (by simp -implicitDefEqProofs only[go_sem,seval,↓reduceIte];try rfl)) ?_
     intro j _ hj _ L11 hL11
     obtain rfl:j=0:=by omega
     refine AW.seq_k fun K hK=>AW.region (by kernel_rfl) ?_
     simp -implicitDefEqProofs only[go_sem,seval,↓reduceIte]
     refine hK _ ?_
     clear hK K
     refine AW.seq_k fun K12 hK12=>?_
     refine AW.condS (by simp -implicitDefEqProofs only[go_sem,seval,↓reduceIte];rfl) (fun h13=>?_) (fun h13=>?_)
     ·cases h13
     ·refine AW.exit ?_
      simp -implicitDefEqProofs only[go_sem,seval,↓reduceIte]
      exact hK10 _ () trivial (Weak.st (by simp -implicitDefEqProofs only[go_sem,seval,↓reduceIte];try rfl) (by simp -implicitDefEqProofs only[go_sem,seval,↓reduceIte];try rfl))
   ·have hne:opn≠[]:=by intro e;rw [e] at hkl;simp at hkl;omega
    have hsl:(if kk=0 then V.msl 72 gx 0 opn.length 2 else if kk<opn.length then V.msl 72 gx (kk * 2) (opn.length-kk) 2 else V.slice .any false 2 []) = .msl 72 gx (kk * 2) p 2:=by
     by_cases h0:kk=0
     ·rw [if_pos h0];congr 1<;>omega
     ·rw [if_neg h0,if_pos (by omega)];congr 1;omega
    have hkle:kk≤opn.length:=by omega
    refine AW.seq_k fun K hK=>AW.region (by kernel_rfl) ?_
    simp -implicitDefEqProofs only[go_sem,seval,↓reduceIte,grown_ne 72 gx 2 hne,hkle,Nat.le_refl,and_self,hsl,Nat.zero_add]
    refine hK _ ?_
    clear hK K
    refine AW.block ?_
    refine AW.for p (fun j (_:Unit)=>st [(3,.ptr 3 g3 0),(4,grown 72 gx 2 opn),(5,.int .i64 k),(6,.ptr 6 g6 0),(7,.int .i64 kk),(8,.msl 34 g34 0 3 1),(9,.int .i64 (deepest ((opn.drop kk).take j))),(14,encSl c 6 encXN s),(15,.int .i64 s.l.length),(16,.int .i64 k),(37,.msl 72 gx (kk * 2) p 2),(38,.int .i64 p),(39,.int .i64 j)]
      [(3,.cells .new g3 0 tabC),(72,grownO gx encPc opn),(6,.cells .new g6 0 [.int .u8 n.op,.int .i64 n.num,.str n.name,.int .i64 n.a,.int .i64 n.b,.int .i64 n.c]),(34,.cells .new g34 0 (plC ((opn.drop kk).take j)))])
     (fun j _=>True) 0 () (Nat.zero_le _) trivial
     (Weak.st (by simp -implicitDefEqProofs only[go_sem,seval,↓reduceIte];rw [grown_ne 72 gx 2 hne];exact ⟨rfl,rfl⟩) (by simp -implicitDefEqProofs only[go_sem,seval,↓reduceIte];try rfl)) ?_
    intro j _ hj _ L11 hL11
    refine AW.seq_k fun K hK=>AW.region (by kernel_rfl) ?_
    simp -implicitDefEqProofs only[go_sem,seval,↓reduceIte]
    refine hK _ ?_
    clear hK K
    refine AW.seq_k fun K12 hK12=>?_
    refine AW.condS (by simp -implicitDefEqProofs only[go_sem,seval,↓reduceIte];rfl) (fun h13=>?_) (fun h13=>?_)
    ·have hj1:j<p:=by have h13:decide ((j:Int)<p)=true:=h13;simp at h13;omega
     refine AW.skip ?_
     simp -implicitDefEqProofs only[go_sem,seval,↓reduceIte]
     refine hK12 _ ?_
     refine AW.seq_k fun K14 hK14=>?_
     refine AW.block ?_
     obtain ⟨x,hx⟩:∃ x,opn[kk+j]? = some x:=⟨_,List.getElem?_eq_getElem (by omega)⟩
     have hxd:(opn.drop kk)[j]? = some x:=by rw [List.getElem?_drop];exact hx
     have hfp:=flat_pc opn (kk+j) x hx
     rw [show (kk+j) * 2=kk * 2+j * 2 by omega] at hfp
     have hfl:kk * 2+j * 2+2≤(flat (opn.map encPc)).length:=by rw [flat_len (m:=2) encPc_cells];omega
     have hps:=plC_set (opn.drop kk) j x hxd (by omega)
     have hds:=deepest_succ (opn.drop kk) j x hxd
     have hpl:=plC_len ((opn.drop kk).take j)
     generalize plC ((opn.drop kk).take j)=pc at hps hpl ⊢
     generalize deepest ((opn.drop kk).take j)=dd at hds ⊢
     have hj3:(j:Int)<3:=by omega
     refine AW.seq_k fun K hK=>AW.region (by kernel_rfl) ?_
     simp -implicitDefEqProofs only[go_sem,seval,↓reduceIte,grownO_ne gx encPc hne,hfp,hfl,Int.natCast_nonneg,hj1,Int.ofNat_lt]
     intro g11
     refine hK _ ?_
     clear hK K
     refine AW.weak (Weak.stF (fun o=>o==11) (l:=[(3,.ptr 3 g3 0),(4,grown 72 gx 2 opn),(5,.int .i64 k),(6,.ptr 6 g6 0),(7,.int .i64 kk),(8,.msl 34 g34 0 3 1),(9,.int .i64 dd),(10,.int .i64 j),(11,.view .new (.agg [.int .i64 x.1,.int .i64 x.2])),(14,encSl c 6 encXN s),(15,.int .i64 s.l.length),(16,.int .i64 k),(37,.msl 72 gx (kk * 2) p 2),(38,.int .i64 p),(39,.int .i64 j)])
      (m:=[(3,.cells .new g3 0 tabC),(72,grownO gx encPc opn),(6,.cells .new g6 0 [.int .u8 n.op,.int .i64 n.num,.str n.name,.int .i64 n.a,.int .i64 n.b,.int .i64 n.c]),(34,.cells .new g34 0 pc)]) ?_ ?_) ?_
     ·simp -implicitDefEqProofs only[go_sem,seval,↓reduceIte]
      refine ⟨Fz.same _,Fz.same _,Fz.same _,Fz.same _,Fz.same _,Fz.same _,Fz.same _,Fz.same _,?_,Fz.same _,Fz.same _,Fz.same _,Fz.same _,Fz.same _,Fz.same _⟩
      exact Fz.ptr (v := .agg [.int .i64 x.1,.int .i64 x.2]) (c := .new) (fz:=0) rfl (by simp -implicitDefEqProofs only[go_sem,seval,↓reduceIte];try rfl)
     ·simp only [allFzO_cons,allFzO_nil,and_true]
      exact ⟨FzO.keep rfl (by simp -implicitDefEqProofs only[go_sem,seval,↓reduceIte]),FzO.keep rfl (by first | rfl | (rw [grownO_ne gx encPc hne];rfl) | (simp -implicitDefEqProofs only[go_sem,seval,↓reduceIte];try rfl)),FzO.keep rfl (by simp -implicitDefEqProofs only[go_sem,seval,↓reduceIte]),FzO.keep rfl (by simp -implicitDefEqProofs only[go_sem,seval,↓reduceIte])⟩
     refine AW.regionT ⟨fun _ => .top,fun i=>if i=3 then .lend else if i=6 then .lend else .pure⟩ (by kernel_rfl) hG (by kernel_rfl) (by kernel_rfl) ?_
     have hjl:j+1≤pc.length:=by omega
     have hset:pc.set j (.int .i64 x.1)=plC ((opn.drop kk).take (j+1)):=hps
     have hmx:(if x.2 > dd then x.2 else dd)=max dd x.2:=by
      rw [Int.max_def];split<;>split<;>omega
     simp -implicitDefEqProofs only[go_sem,seval,↓reduceIte,hj3,Int.natCast_nonneg,Nat.mul_one,Nat.zero_le,hjl,hset,hmx,← hds]
     refine hK14 _ ?_
     refine AW.region (by kernel_rfl) ?_
     simp -implicitDefEqProofs only[go_sem,seval,↓reduceIte]
     refine hL11 _ ⟨hj1,(),trivial,Weak.st (by simp -implicitDefEqProofs only[go_sem,seval,↓reduceIte];exact congrArg _ (w64 (by omega) (by omega))) (by simp -implicitDefEqProofs only[go_sem,seval,↓reduceIte];try rfl)⟩
    ·have hj1:j=p:=by have h13:decide ((j:Int)<p)=false:=h13;simp at h13;omega
     have htk:(opn.drop kk).take j=opn.drop kk:=List.take_of_length_le (by rw [List.length_drop];omega)
     rw [htk]
     refine AW.exit ?_
     simp -implicitDefEqProofs only[go_sem,seval,↓reduceIte]
     exact hK10 _ () trivial (Weak.st (by simp -implicitDefEqProofs only[go_sem,seval,↓reduceIte]) (by simp -implicitDefEqProofs only[go_sem,seval,↓reduceIte];try rfl))
  intro _ _
  refine AW.seq_k fun K11 hK11=>?_
  have hpl:places3 (opn.drop kk)=[(places3 (opn.drop kk)).getD 0 0,(places3 (opn.drop kk)).getD 1 0,(places3 (opn.drop kk)).getD 2 0]:=rfl
  refine AW.seq_k fun K hK=>AW.region (by kernel_rfl) ?_
  simp -implicitDefEqProofs only[go_sem,seval,↓reduceIte]
  intro g61
  refine CallA.bor hG [encSl .old 1 (V.int .i64) (.mk false (places3 (opn.drop kk))),encSl .old 1 (V.int .i64) (.mk false [n.a,n.b,n.c])] (by kernel_rfl) ⟨?_,?_,trivial⟩ ?_
  ·exact Rd.msl (off:=0) (n:=3) (l:=places3 (opn.drop kk)) (f:=V.int .i64) (f':=V.int .i64) (g:=g34) (fz:=0) (c := .new) (by simp -implicitDefEqProofs only[go_sem,seval,↓reduceIte];exact congrArg (AObj.cells Col.new g34 0) (flat_intsV _ _).symm) (fun _=>rfl) (fun x y hy=>by simp [V.cells] at hy;subst hy;exact .int _ _) (fun _=>rfl) (by simp [places3])
  ·exact Rd.msl (off:=0) (n:=3) (l:=[n.a,n.b,n.c]) (f:=V.int .i64) (f':=V.int .i64) (g:=g61) (fz:=0) (c := .new) (by simp -implicitDefEqProofs only[go_sem,seval,↓reduceIte];rfl) (fun _=>rfl) (fun x y hy=>by simp [V.cells] at hy;subst hy;exact .int _ _) (fun _=>rfl) (by simp)
  refine (sEqual_spec G hG _ _ (.mk false (places3 (opn.drop kk))) (.mk false [n.a,n.b,n.c]) (by simp [places3,Sl.l])).mono ?_
  rintro _ _ rfl
  refine ⟨.bool _,?_⟩
  simp -implicitDefEqProofs only[go_sem,seval,↓reduceIte]
  refine hK _ ?_
  clear hK K
  cases heq:(places3 (opn.drop kk)==[n.a,n.b,n.c]) with
  | false =>
   have heq2:places3 (opn.drop kk)≠[n.a,n.b,n.c]:=by simpa using heq
   rw [if_pos heq2] at hst
   rw [hst] at hR
   refine AW.condS (by simp -implicitDefEqProofs only[go_sem,seval,↓reduceIte];rfl) (fun h12=>?_) (fun h12=>?_)
   ·refine AW.seq_k fun K hK=>AW.region (by kernel_rfl) ?_
    simp -implicitDefEqProofs only[go_sem,seval,↓reduceIte]
    refine hK _ ?_
    clear hK K
    refine AW.ret ?_
    simp -implicitDefEqProofs only[go_sem,seval,↓reduceIte]
    refine endK_some ?_
    rw [hnone hR]
   ·cases h12
  | true =>
  have heq2:¬ places3 (opn.drop kk)≠[n.a,n.b,n.c]:=by simpa using heq
  rw [if_neg heq2] at hst
  rw [hst] at hR
  refine AW.condS (by simp -implicitDefEqProofs only[go_sem,seval,↓reduceIte];rfl) (fun h12=>?_) (fun h12=>?_)
  ·cases h12
  refine AW.skip ?_
  simp -implicitDefEqProofs only[go_sem,seval,↓reduceIte]
  refine hK11 _ ?_
  have hdb:=deepest_le (l:=opn.drop kk) (k:=k) (by omega) fun y hy=>hdp y (List.mem_of_mem_drop hy)
  generalize deepest (opn.drop kk)=dd at hR hdb ⊢
  have hwd:IntKind.i64.wrap (dd+1)=dd+1:=w64 (by omega) (by omega)
  have hne2:opn.take kk++[((k:Int),dd+1)]≠[]:=by simp
  have hlen2:(opn.take kk++[((k:Int),dd+1)]).length=kk+1:=by rw [List.length_append,List.length_take];simp;omega
  have hdp2:∀ y∈opn.take kk++[((k:Int),dd+1)],(0:Int)≤y.2∧y.2≤(k+1:Nat):=by
   intro y hy
   rcases List.mem_append.1 hy with h | h
   ·have:=hdp y (List.mem_of_mem_take h);omega
   ·rw [List.mem_singleton.1 h];show 0≤dd+1∧dd+1≤_;omega
  by_cases hne:opn=[]
  ·subst hne
   have hk0:kk=0:=by simpa using hkk
   subst hk0
   refine AW.region (by kernel_rfl) ?_
   simp -implicitDefEqProofs only[go_sem,seval,↓reduceIte,grown_nil,grownO_nil,and_self,hwd]
   intro g71
   refine app_grown (f:=encPc) (l:=([]:List (Int × Int))) (l2:=[((k:Int),dd+1)]) (g:=gx) encPc_cells rfl rfl rfl rfl (roomOk_of (by omega) (by simp)) fun g2=>?_
   simp -implicitDefEqProofs only[go_sem,seval,↓reduceIte]
   refine hK5 _ ?_
   refine AW.region (by kernel_rfl) ?_
   simp -implicitDefEqProofs only[go_sem,seval,↓reduceIte]
   refine hL2 _ ⟨hk1,(g2,[((k:Int),dd+1)]),⟨hR,?_,hdp2⟩,Weak.st (by simp -implicitDefEqProofs only[go_sem,seval,↓reduceIte];exact congrArg _ (w64 (by omega) (by omega))) (by simp -implicitDefEqProofs only[go_sem,seval,↓reduceIte];try rfl)⟩
   show 1≤k+1
   omega
  ·have hkle:kk≤opn.length:=by omega
   refine AW.region (by kernel_rfl) ?_
   simp -implicitDefEqProofs only[go_sem,seval,↓reduceIte,grown_ne 72 gx 2 hne,Nat.zero_le,hkle,and_self,hwd,grownO_ne gx encPc hne]
   intro g71
   refine ⟨roomOk_of (by omega) (by omega),by rw [flat_len (m:=2) encPc_cells];omega,fun g2=>?_⟩
   refine hK5 _ ?_
   refine AW.region (by kernel_rfl) ?_
   simp -implicitDefEqProofs only[go_sem,seval,↓reduceIte]
   refine hL2 _ ⟨hk1,(g2,opn.take kk++[((k:Int),dd+1)]),⟨hR,?_,hdp2⟩,Weak.st (by simp -implicitDefEqProofs only[go_sem,seval,↓reduceIte];exact ⟨by rw [grown_ne _ _ _ hne2,hlen2],congrArg _ (w64 (by omega) (by omega))⟩) (by simp -implicitDefEqProofs only[go_sem,seval,↓reduceIte];rw [grownO_ne _ _ hne2,List.map_append,flat_app,← flat_take];rfl)⟩
   show (opn.take kk++[_]).length≤k+1
   rw [hlen2];omega
 ·have hk1:k=s.l.length:=by simp at h4;omega
  refine AW.exit ?_
  simp -implicitDefEqProofs only[go_sem,seval,↓reduceIte]
  refine hK1 _ ?_
  rw [hk1,List.drop_length,depGo] at hR
  rw [hR] at hD
  refine AW.seq_k fun K6 hK6=>?_
  match opn,hD with
  | [],hD =>
   refine AW.seq_k fun K hK=>AW.region (by kernel_rfl) ?_
   simp -implicitDefEqProofs only[go_sem,seval,↓reduceIte,grown_nil]
   refine hK _ ?_
   clear hK K
   refine AW.condS (by simp -implicitDefEqProofs only[go_sem,seval,↓reduceIte];rfl) (fun h7=>?_) (fun h7=>?_)
   ·refine AW.seq_k fun K hK=>AW.region (by kernel_rfl) ?_
    simp -implicitDefEqProofs only[go_sem,seval,↓reduceIte]
    refine hK _ ?_
    clear hK K
    refine AW.ret ?_
    simp -implicitDefEqProofs only[go_sem,seval,↓reduceIte]
    refine endK_some ?_
    rw [hD]
   ·cases h7
  | [x],hD =>
   have hne:[x]≠([]:List (Int × Int)):=by simp
   refine AW.seq_k fun K hK=>AW.region (by kernel_rfl) ?_
   simp -implicitDefEqProofs only[go_sem,seval,↓reduceIte]
   refine hK _ ?_
   clear hK K
   refine AW.condS (by simp -implicitDefEqProofs only[go_sem,seval,↓reduceIte];rfl) (fun h7=>?_) (fun h7=>?_)
   ·cases h7
   refine AW.skip ?_
   simp -implicitDefEqProofs only[go_sem,seval,↓reduceIte]
   refine hK6 _ ?_
   have hfx:flat ([x].map encPc)=[.int .i64 x.1,.int .i64 x.2]:=rfl
   refine AW.seq_k fun K hK=>AW.region (by kernel_rfl) ?_
   simp -implicitDefEqProofs only[go_sem,seval,↓reduceIte,grown_ne 72 gx 2 hne,grownO_ne gx encPc hne,hfx]
   refine hK _ ?_
   clear hK K
   refine AW.ret ?_
   simp -implicitDefEqProofs only[go_sem,seval,↓reduceIte]
   refine endK_some ?_
   rw [hD]
  | x::y::r,hD =>
   have e1:(((x::y::r).length:Int) != 1)=true:=by simp;omega
   refine AW.seq_k fun K hK=>AW.region (by kernel_rfl) ?_
   simp -implicitDefEqProofs only[go_sem,seval,↓reduceIte,e1]
   refine hK _ ?_
   clear hK K
   refine AW.condS (by simp -implicitDefEqProofs only[go_sem,seval,↓reduceIte];rfl) (fun h7=>?_) (fun h7=>?_)
   ·refine AW.seq_k fun K hK=>AW.region (by kernel_rfl) ?_
    simp -implicitDefEqProofs only[go_sem,seval,↓reduceIte]
    refine hK _ ?_
    clear hK K
    refine AW.ret ?_
    simp -implicitDefEqProofs only[go_sem,seval,↓reduceIte]
    refine endK_some ?_
    rw [hD]
   ·cases h7
end Go.Hs
end

section
namespace Go.Hs
open Go.Proofs
set_option maxRecDepth 10000
theorem rPartsOf_spec (G:Nat→V) (hG:GOk G) (op:Int):Spec Tryz.prog G 90 [.int .u8 op] hNone (fun v _=>v = .int .i64 (partsOf op:Nat)):=by
 refine Spec.of_code' 0 12 [.tmp 2] Tryz.func90 rfl rfl rfl rfl fun X=>?_
 have hP:partsOf op=if op≤4 then 0 else if op≤6 then 1 else if op≤21 then 2 else 3:=rfl
 refine AW.seq_k fun K hK=>AW.region (by kernel_rfl) ?_
 simp -implicitDefEqProofs only[go_sem,seval,↓reduceIte]
 refine hK _ ?_
 clear hK K
 refine AW.seqJ (fun (_:Unit)=>st [] []) (fun _=>¬ op≤4∧¬ op≤6∧¬ op≤21) (fun K1 hK1=>?_) ?_
 ·refine AW.block ?_
  refine AW.seq_k fun K hK=>AW.region (by kernel_rfl) ?_
  simp -implicitDefEqProofs only[go_sem,seval,↓reduceIte]
  refine hK _ ?_
  clear hK K
  refine AW.condS (by simp -implicitDefEqProofs only[go_sem,seval,↓reduceIte];rfl) (fun h1=>?_) (fun h1=>?_)
  ·refine AW.seq_k fun K hK=>AW.region (by kernel_rfl) ?_
   simp -implicitDefEqProofs only[go_sem,seval,↓reduceIte]
   refine hK _ ?_
   clear hK K
   refine AW.ret ?_
   simp -implicitDefEqProofs only[go_sem,seval,↓reduceIte]
   refine endK_some ?_
   rw [hP,if_pos (by simpa using h1)];rfl
  refine AW.seq_k fun K hK=>AW.region (by kernel_rfl) ?_
  simp -implicitDefEqProofs only[go_sem,seval,↓reduceIte]
  refine hK _ ?_
  clear hK K
  refine AW.condS (by simp -implicitDefEqProofs only[go_sem,seval,↓reduceIte];rfl) (fun h2=>?_) (fun h2=>?_)
  ·refine AW.seq_k fun K hK=>AW.region (by kernel_rfl) ?_
   simp -implicitDefEqProofs only[go_sem,seval,↓reduceIte]
   refine hK _ ?_
   clear hK K
   refine AW.ret ?_
   simp -implicitDefEqProofs only[go_sem,seval,↓reduceIte]
   refine endK_some ?_
   rw [hP,if_neg (by simpa using h1),if_pos (by simpa using h2)];rfl
  refine AW.seq_k fun K hK=>AW.region (by kernel_rfl) ?_
  simp -implicitDefEqProofs only[go_sem,seval,↓reduceIte]
  refine hK _ ?_
  clear hK K
  refine AW.condS (by simp -implicitDefEqProofs only[go_sem,seval,↓reduceIte];rfl) (fun h3=>?_) (fun h3=>?_)
  ·refine AW.seq_k fun K hK=>AW.region (by kernel_rfl) ?_
   simp -implicitDefEqProofs only[go_sem,seval,↓reduceIte]
   refine hK _ ?_
   clear hK K
   refine AW.ret ?_
   simp -implicitDefEqProofs only[go_sem,seval,↓reduceIte]
   refine endK_some ?_
   rw [hP,if_neg (by simpa using h1),if_neg (by simpa using h2),if_pos (by simpa using h3)];rfl
  ·refine AW.skip ?_
   simp -implicitDefEqProofs only[go_sem,seval,↓reduceIte]
   exact hK1 _ () ⟨by simpa using h1,by simpa using h2,by simpa using h3⟩ (Weak.st (by simp -implicitDefEqProofs only[go_sem,seval,↓reduceIte]) (by simp -implicitDefEqProofs only[go_sem,seval,↓reduceIte]))
 rintro _ ⟨h1,h2,h3⟩
 refine AW.seq_k fun K hK=>AW.region (by kernel_rfl) ?_
 simp -implicitDefEqProofs only[go_sem,seval,↓reduceIte]
 refine hK _ ?_
 clear hK K
 refine AW.ret ?_
 simp -implicitDefEqProofs only[go_sem,seval,↓reduceIte]
 refine endK_some ?_
 rw [hP,if_neg h1,if_neg h2,if_neg h3];rfl
theorem rRightN_spec (G:Nat→V) (hG:GOk G) (n:XN) (hn:n.name.length<100000):Spec Tryz.prog G 108 [encXN n] hNone (fun v _=>v = .bool (wellP n)):=by
 refine Spec.of_code' 0 36 [.tmp 2] Tryz.func108 rfl rfl rfl rfl fun X=>?_
 have hW:wellP n=if n.op<1∨n.op > 22∨n.num<0 then false else if n.op=2 then n.num==0 && isP n.name==2 else n.name==[] && (n.op==1 || n.num==0):=rfl
 obtain ⟨op,num,name,a,b,c⟩:=n
 simp only at hn hW
 simp only [encXN_K]
 refine AW.seq_k fun K hK=>AW.region (by kernel_rfl) ?_
 simp -implicitDefEqProofs only[go_sem,seval,↓reduceIte]
 intro g1
 refine hK _ ?_
 clear hK K
 refine AW.seqJ (fun (_:Unit)=>st [(1,.ptr 1 g1 0)] [(1,.cells .new g1 0 [.int .u8 op,.int .i64 num,.str name,.int .i64 a,.int .i64 b,.int .i64 c])]) (fun _=>wellP ⟨op,num,name,a,b,c⟩=if op=2 then isP name==2 else name==[]) (fun K1 hK1=>?_) ?_
 ·have hK2:(op<1)=False→(op > 22)=False→(num<0)=False→(op=1∨num=0)→wellP ⟨op,num,name,a,b,c⟩=if op=2 then isP name==2 else name==[]:=by
   intro h1 h2 h3 h4
   rw [hW,if_neg (by rintro (h | h | h);exact h1 ▸ h;exact h2 ▸ h;exact h3 ▸ h)]
   by_cases ho:op=2
   ·have:num=0:=h4.resolve_left (by omega)
    rw [if_pos ho,if_pos ho,this];rfl
   ·rw [if_neg ho,if_neg ho]
    rcases h4 with h | h
    ·rw [h];simp
    ·rw [h];simp
  have hK3:(op<1∨op > 22∨num<0∨(op≠1∧num≠0))→wellP ⟨op,num,name,a,b,c⟩=false:=by
   intro h
   rw [hW]
   split
   ·rfl
   ·rename_i h0
    simp only [not_or] at h0
    obtain ⟨q1,q2⟩:op≠1∧num≠0:=by
     rcases h with h | h | h | h
     ·exact absurd h h0.1
     ·exact absurd h h0.2.1
     ·exact absurd h h0.2.2
     ·exact h
    have e1:(op==1)=false:=by simpa using q1
    have e2:(num==0)=false:=by simpa using q2
    rw [e1,e2];simp
  by_cases q1:op<1
  ·have h1:decide (op<1)=true:=by simpa using q1
   (refine AW.seq_k fun K hK=>AW.region (by kernel_rfl) ?_;simp -implicitDefEqProofs only[go_sem,seval,↓reduceIte,h1];refine hK _ ?_;clear hK K)
   refine AW.condS (b:=true) (by simp -implicitDefEqProofs only[go_sem,seval,↓reduceIte]) (fun _=>?_) (fun h=>by cases h)
   (refine AW.seq_k fun K hK=>AW.region (by kernel_rfl) ?_;simp -implicitDefEqProofs only[go_sem,seval,↓reduceIte];refine hK _ ?_;clear hK K)
   (refine AW.ret ?_;simp -implicitDefEqProofs only[go_sem,seval,↓reduceIte];refine endK_some ?_)
   rw [hK3 (.inl q1)]
  have h1:decide (op<1)=false:=by simpa using q1
  by_cases q2:op > 22
  ·have h2:decide (op > 22)=true:=by simpa using q2
   (refine AW.seq_k fun K hK=>AW.region (by kernel_rfl) ?_;simp -implicitDefEqProofs only[go_sem,seval,↓reduceIte,h1,h2];refine hK _ ?_;clear hK K)
   refine AW.condS (b:=true) (by simp -implicitDefEqProofs only[go_sem,seval,↓reduceIte]) (fun _=>?_) (fun h=>by cases h)
   (refine AW.seq_k fun K hK=>AW.region (by kernel_rfl) ?_;simp -implicitDefEqProofs only[go_sem,seval,↓reduceIte];refine hK _ ?_;clear hK K)
   (refine AW.ret ?_;simp -implicitDefEqProofs only[go_sem,seval,↓reduceIte];refine endK_some ?_)
   rw [hK3 (.inr (.inl q2))]
  have h2:decide (op > 22)=false:=by simpa using q2
  by_cases q4:op=1
  ·have h4:(op != 1)=false:=by simpa using q4
   by_cases q3:num<0
   ·have h3:decide (num<0)=true:=by simpa using q3
    (refine AW.seq_k fun K hK=>AW.region (by kernel_rfl) ?_;simp -implicitDefEqProofs only[go_sem,seval,↓reduceIte,h1,h2,h3,h4];refine hK _ ?_;clear hK K)
    refine AW.condS (b:=true) (by simp -implicitDefEqProofs only[go_sem,seval,↓reduceIte]) (fun _=>?_) (fun h=>by cases h)
    (refine AW.seq_k fun K hK=>AW.region (by kernel_rfl) ?_;simp -implicitDefEqProofs only[go_sem,seval,↓reduceIte];refine hK _ ?_;clear hK K)
    (refine AW.ret ?_;simp -implicitDefEqProofs only[go_sem,seval,↓reduceIte];refine endK_some ?_)
    rw [hK3 (.inr (.inr (.inl q3)))]
   have h3:decide (num<0)=false:=by simpa using q3
   (refine AW.seq_k fun K hK=>AW.region (by kernel_rfl) ?_;simp -implicitDefEqProofs only[go_sem,seval,↓reduceIte,h1,h2,h3,h4];refine hK _ ?_;clear hK K)
   refine AW.condS (b:=false) (by simp -implicitDefEqProofs only[go_sem,seval,↓reduceIte]) (fun h=>by cases h) (fun _=>?_)
   refine AW.skip ?_
   simp -implicitDefEqProofs only[go_sem,seval,↓reduceIte]
   exact hK1 _ () (hK2 (eq_false q1) (eq_false q2) (eq_false q3) (.inl q4)) (Weak.st (by simp -implicitDefEqProofs only[go_sem,seval,↓reduceIte]) (by simp -implicitDefEqProofs only[go_sem,seval,↓reduceIte]))
  have h4:(op != 1)=true:=by simpa using q4
  by_cases q5:num=0
  ·have h5:(num != 0)=false:=by simpa using q5
   have q3:¬ num<0:=by omega
   have h3:decide (num<0)=false:=by simpa using q3
   (refine AW.seq_k fun K hK=>AW.region (by kernel_rfl) ?_;simp -implicitDefEqProofs only[go_sem,seval,↓reduceIte,h1,h2,h3,h4,h5];refine hK _ ?_;clear hK K)
   refine AW.condS (b:=false) (by simp -implicitDefEqProofs only[go_sem,seval,↓reduceIte]) (fun h=>by cases h) (fun _=>?_)
   refine AW.skip ?_
   simp -implicitDefEqProofs only[go_sem,seval,↓reduceIte]
   exact hK1 _ () (hK2 (eq_false q1) (eq_false q2) (eq_false q3) (.inr q5)) (Weak.st (by simp -implicitDefEqProofs only[go_sem,seval,↓reduceIte]) (by simp -implicitDefEqProofs only[go_sem,seval,↓reduceIte]))
  have h5:(num != 0)=true:=by simpa using q5
  (refine AW.seq_k fun K hK=>AW.region (by kernel_rfl) ?_;simp -implicitDefEqProofs only[go_sem,seval,↓reduceIte,h1,h2,h4,h5];refine hK _ ?_;clear hK K)
  refine AW.condS (b:=true) (by simp -implicitDefEqProofs only[go_sem,seval,↓reduceIte]) (fun _=>?_) (fun h=>by cases h)
  (refine AW.seq_k fun K hK=>AW.region (by kernel_rfl) ?_;simp -implicitDefEqProofs only[go_sem,seval,↓reduceIte];refine hK _ ?_;clear hK K)
  (refine AW.ret ?_;simp -implicitDefEqProofs only[go_sem,seval,↓reduceIte];refine endK_some ?_)
  rw [hK3 (.inr (.inr (.inr ⟨q4,q5⟩)))]
 rintro _ hW2
 refine AW.seq_k fun K2 hK2=>?_
 refine AW.seq_k fun K hK=>AW.region (by kernel_rfl) ?_
 simp -implicitDefEqProofs only[go_sem,seval,↓reduceIte]
 refine hK _ ?_
 clear hK K
 refine AW.condS (by simp -implicitDefEqProofs only[go_sem,seval,↓reduceIte];rfl) (fun h5=>?_) (fun h5=>?_)
 ·have h5:op=2:=by simpa using h5
  rw [if_pos h5] at hW2
  refine AW.seq_k fun K hK=>AW.region (by kernel_rfl) ?_
  simp -implicitDefEqProofs only[go_sem,seval,↓reduceIte]
  refine CallA.pure hG (by kernel_rfl) ?_
  simp -implicitDefEqProofs only[go_sem,seval,↓reduceIte]
  refine (rIs_spec G hG name (by omega)).mono ?_
  rintro _ _ rfl
  simp -implicitDefEqProofs only[go_sem,seval,↓reduceIte]
  refine hK _ ?_
  clear hK K
  refine AW.ret ?_
  simp -implicitDefEqProofs only[go_sem,seval,↓reduceIte]
  refine endK_some ?_
  rw [hW2]
  generalize isP name=z
  cases hz:(z==2) with
  | true =>
   have:((z:Int)==2)=true:=by rw [beq_iff_eq] at hz ⊢;omega
   rw [this]
  | false =>
   have:((z:Int)==2)=false:=by rw [beq_eq_false_iff_ne] at hz ⊢;omega
   rw [this]
 ·have h5:¬ op=2:=by simpa using h5
  rw [if_neg h5] at hW2
  refine AW.skip ?_
  simp -implicitDefEqProofs only[go_sem,seval,↓reduceIte]
  refine hK2 _ ?_
  refine AW.seq_k fun K hK=>AW.region (by kernel_rfl) ?_
  simp -implicitDefEqProofs only[go_sem,seval,↓reduceIte]
  refine hK _ ?_
  clear hK K
  refine AW.ret ?_
  simp -implicitDefEqProofs only[go_sem,seval,↓reduceIte]
  refine endK_some ?_
  rw [hW2]
def placeOf (n:XN):Nat→Int
 | 0=>n.a
 | 1=>n.b
 | _=>n.c
def begLoop (rec:Int→Int) (n:XN):Nat→Int→Option Int
 | 0,last=>some last
 | k+1,last=>match begStep rec (Nat.blt k (partsOf n.op)) (placeOf n k) last with
  | none=>none
  | some q=>begLoop rec n k q
theorem begR_loop (l:List XN) (f:Nat) (i:Int):begR l (f+1) i=match nthP l i with
  | none => -1
  | some n=>bif wellP n then (match begLoop (begR l f) n 3 (i-1) with | none => -1 | some q=>q+1) else -1:=by
 rw [begR]
 cases nthP l i with
 | none=>rfl
 | some n =>
  simp only
  cases wellP n with
  | false=>rfl
  | true =>
   simp only [cond_true,begLoop,placeOf]
   cases begStep (begR l f) (Nat.blt 2 (partsOf n.op)) n.c (i-1) with
   | none=>rfl
   | some l2 =>
    simp only
    cases begStep (begR l f) (Nat.blt 1 (partsOf n.op)) n.b l2 with
    | none=>rfl
    | some l1 =>
     simp only
     cases begStep (begR l f) (Nat.blt 0 (partsOf n.op)) n.a l1 with
     | none=>rfl
     | some l0=>rfl
theorem begStep_ne {rec:Int→Int} {pl last:Int} (h:¬ pl=last):begStep rec true pl last=none:=by simp [begStep,h]
theorem begStep_neg {rec:Int→Int} {pl last:Int} (h:pl=last) (h2:rec last<0):begStep rec true pl last=none:=by simp [begStep,h,h2]
theorem begStep_pos {rec:Int→Int} {pl last:Int} (h:pl=last) (h2:¬ rec last<0):begStep rec true pl last=some (rec last-1):=by simp [begStep,h,h2]
theorem bsNo {rec:Int→Int} {pl last:Int} (h:¬ pl = -1):begStep rec false pl last=none:=by simp [begStep,h]
theorem bsNone {rec:Int→Int} {pl last:Int} (h:pl = -1):begStep rec false pl last=some last:=by simp [begStep,h]
theorem begR_le (l:List XN) (f:Nat) (i:Int) (h:0≤begR l f i):begR l f i≤i:=by
 obtain ⟨x,b,_,_,h3,h4⟩:=begR_tree l f i h
 have:=x.size_pos
 omega
theorem rBegin_spec (G:Nat→V) (hG:GOk G) (s:Sl XN) (hs:s.l.length<1000000) (hnm:∀ n∈s.l,n.name.length<100000):∀ (f:Nat) (c:Col) (i:Int),-1≤i→i<f→i<1000000 →
  Spec Tryz.prog G 73 [encSl c 6 encXN s,.int .i64 i] hNone (fun v _=>v = .int .i64 (begR s.l f i)):=by
 intro f
 induction f with
 | zero =>
  intro c i h1 h2 _
  obtain rfl:i = -1:=by omega
  refine Spec.of_code' 0 68 [.tmp 4] Tryz.func73 rfl rfl rfl rfl fun X=>?_
  refine AW.seq_k fun K hK=>AW.region (by kernel_rfl) ?_
  simp -implicitDefEqProofs only[go_sem,seval,↓reduceIte]
  refine hK _ ?_
  clear hK K
  refine AW.seq_k fun K1 hK1=>?_
  refine AW.seq_k fun K hK=>AW.region (by kernel_rfl) ?_
  simp -implicitDefEqProofs only[go_sem,seval,↓reduceIte]
  refine hK _ ?_
  clear hK K
  refine AW.condS (by simp -implicitDefEqProofs only[go_sem,seval,↓reduceIte];rfl) (fun h2=>?_) (fun h2=>?_)
  ·refine AW.seq_k fun K hK=>AW.region (by kernel_rfl) ?_
   simp -implicitDefEqProofs only[go_sem,seval,↓reduceIte]
   refine hK _ ?_
   clear hK K
   refine AW.ret ?_
   simp -implicitDefEqProofs only[go_sem,seval,↓reduceIte]
   refine endK_some ?_
   rfl
  ·cases h2
 | succ f ih =>
 intro c i h1 h2 h3
 refine Spec.of_code' 0 68 [.tmp 4] Tryz.func73 rfl rfl rfl rfl fun X=>?_
 have hB:=begR_loop s.l f i
 generalize begR s.l (f+1) i=res at hB ⊢
 refine AW.seq_k fun K hK=>AW.region (by kernel_rfl) ?_
 simp -implicitDefEqProofs only[go_sem,seval,↓reduceIte]
 refine hK _ ?_
 clear hK K
 refine AW.seq_k fun K1 hK1=>?_
 by_cases hi:i<0
 ·have e1:decide (i<0)=true:=by simpa using hi
  have hno:nthP s.l i=none:=by unfold nthP;rw [if_pos hi]
  rw [hno] at hB
  refine AW.seq_k fun K hK=>AW.region (by kernel_rfl) ?_
  simp -implicitDefEqProofs only[go_sem,seval,↓reduceIte,e1]
  refine hK _ ?_
  clear hK K
  refine AW.condS (by simp -implicitDefEqProofs only[go_sem,seval,↓reduceIte];rfl) (fun h4=>?_) (fun h4=>?_)
  ·refine AW.seq_k fun K hK=>AW.region (by kernel_rfl) ?_
   simp -implicitDefEqProofs only[go_sem,seval,↓reduceIte]
   refine hK _ ?_
   clear hK K
   refine AW.ret ?_
   simp -implicitDefEqProofs only[go_sem,seval,↓reduceIte]
   refine endK_some ?_
   rw [hB]
  ·cases h4
 have e1:decide (i<0)=false:=by simpa using hi
 obtain ⟨m,rfl⟩:∃ m:Nat,i=m:=⟨i.toNat,by omega⟩
 by_cases hm:m≥s.l.length
 ·have e2:decide ((m:Int)≥s.l.length)=true:=by rw [decide_eq_true_iff];omega
  have hno:nthP s.l m=none:=by unfold nthP;rw [if_neg hi];exact List.getElem?_eq_none (by simpa using hm)
  rw [hno] at hB
  refine AW.seq_k fun K hK=>AW.region (by kernel_rfl) ?_
  simp -implicitDefEqProofs only[go_sem,seval,↓reduceIte,e1,e2]
  refine hK _ ?_
  clear hK K
  refine AW.condS (by simp -implicitDefEqProofs only[go_sem,seval,↓reduceIte];rfl) (fun h4=>?_) (fun h4=>?_)
  ·refine AW.seq_k fun K hK=>AW.region (by kernel_rfl) ?_
   simp -implicitDefEqProofs only[go_sem,seval,↓reduceIte]
   refine hK _ ?_
   clear hK K
   refine AW.ret ?_
   simp -implicitDefEqProofs only[go_sem,seval,↓reduceIte]
   refine endK_some ?_
   rw [hB]
  ·cases h4
 have e2:decide ((m:Int)≥s.l.length)=false:=by rw [decide_eq_false_iff_not];omega
 have hg:=List.getElem?_eq_getElem (Nat.lt_of_not_le hm)
 have hnn:=hnm _ (List.getElem_mem (Nat.lt_of_not_le hm))
 generalize s.l[m]=n at hg hnn
 have hno:nthP s.l m=some n:=by unfold nthP;rw [if_neg hi];exact hg
 rw [hno] at hB
 simp only at hB
 refine AW.seq_k fun K hK=>AW.region (by kernel_rfl) ?_
 simp -implicitDefEqProofs only[go_sem,seval,↓reduceIte,e1,e2,hg,encXN_K]
 rw [← encXN_K]
 refine CallA.pure hG (by kernel_rfl) ?_
 simp -implicitDefEqProofs only[go_sem,seval,↓reduceIte,recol_xn]
 refine (rRightN_spec G hG n hnn).mono ?_
 rintro _ _ rfl
 simp -implicitDefEqProofs only[go_sem,seval,↓reduceIte]
 refine hK _ ?_
 clear hK K
 cases hw:wellP n with
 | false =>
  rw [hw,cond_false] at hB
  refine AW.condS (by simp -implicitDefEqProofs only[go_sem,seval,↓reduceIte];rfl) (fun h4=>?_) (fun h4=>?_)
  ·refine AW.seq_k fun K hK=>AW.region (by kernel_rfl) ?_
   simp -implicitDefEqProofs only[go_sem,seval,↓reduceIte]
   refine hK _ ?_
   clear hK K
   refine AW.ret ?_
   simp -implicitDefEqProofs only[go_sem,seval,↓reduceIte]
   refine endK_some ?_
   rw [hB]
  ·cases h4
 | true =>
 rw [hw,cond_true] at hB
 refine AW.condS (by simp -implicitDefEqProofs only[go_sem,seval,↓reduceIte];rfl) (fun h4=>?_) (fun h4=>?_)
 ·cases h4
 refine AW.skip ?_
 simp -implicitDefEqProofs only[go_sem,seval,↓reduceIte]
 refine hK1 _ ?_
 refine AW.seq_k fun K hK=>AW.region (by kernel_rfl) ?_
 simp -implicitDefEqProofs only[go_sem,seval,↓reduceIte,hg,encXN_K]
 intro g5
 refine hK _ ?_
 clear hK K
 refine AW.seq_k fun K hK=>AW.region (by kernel_rfl) ?_
 simp -implicitDefEqProofs only[go_sem,seval,↓reduceIte]
 intro g36
 refine hK _ ?_
 clear hK K
 have hw1:IntKind.i64.wrap ((m:Int)-1)=(m:Int)-1:=w64 (by omega) (by omega)
 refine AW.seq_k fun K hK=>AW.region (by kernel_rfl) ?_
 simp -implicitDefEqProofs only[go_sem,seval,↓reduceIte,hw1]
 refine hK _ ?_
 clear hK K
 refine AW.seq_k fun K5 hK5=>?_
 refine AW.seq_k fun K hK=>AW.region (by kernel_rfl) ?_
 simp -implicitDefEqProofs only[go_sem,seval,↓reduceIte]
 refine hK _ ?_
 clear hK K
 refine AW.block ?_
 refine AW.while (fun (x:Nat × Int)=>st [(0,encSl c 6 encXN s),(5,.ptr 5 g5 0),(6,.msl 36 g36 0 3 1),(7,.int .i64 x.2),(8,.int .i64 ((x.1:Int)-1))] [(5,.cells .new g5 0 [.int .u8 n.op,.int .i64 n.num,.str n.name,.int .i64 n.a,.int .i64 n.b,.int .i64 n.c]),(36,.cells .new g36 0 [.int .i64 n.a,.int .i64 n.b,.int .i64 n.c])])
  (fun x=>(res=match begLoop (begR s.l f) n x.1 x.2 with | none => -1 | some q=>q+1)∧x.1≤3 ∧ -1≤x.2∧x.2≤(m:Int)-1) (fun x=>x.1) (3,(m:Int)-1) ⟨hB,Nat.le_refl _,by show -1≤(m:Int)-1;omega,Int.le_refl _⟩
  (Weak.st (by simp -implicitDefEqProofs only[go_sem,seval,↓reduceIte];try rfl) (by simp -implicitDefEqProofs only[go_sem,seval,↓reduceIte])) ?_
 clear hB
 rintro ⟨k,last⟩ ⟨hB,hk3,hl1,hl2⟩ L6 hL6
 replace hB:res=match begLoop (begR s.l f) n k last with | none => -1 | some q=>q+1:=hB
 replace hk3:k≤3:=hk3
 replace hl1 : -1≤last:=hl1
 replace hl2:last≤(m:Int)-1:=hl2
 refine AW.seq_k fun K7 hK7=>?_
 refine AW.seq_k fun K hK=>AW.region (by kernel_rfl) ?_
 simp -implicitDefEqProofs only[go_sem,seval,↓reduceIte]
 refine hK _ ?_
 clear hK K
 cases k with
 | zero =>
  refine AW.condS (by simp -implicitDefEqProofs only[go_sem,seval,↓reduceIte];rfl) (fun h8=>?_) (fun h8=>?_)
  ·cases h8
  refine AW.exit ?_
  simp -implicitDefEqProofs only[go_sem,seval,↓reduceIte]
  refine hK5 _ ?_
  refine AW.seq_k fun K hK=>AW.region (by kernel_rfl) ?_
  simp -implicitDefEqProofs only[go_sem,seval,↓reduceIte]
  refine hK _ ?_
  clear hK K
  refine AW.ret ?_
  simp -implicitDefEqProofs only[go_sem,seval,↓reduceIte]
  refine endK_some ?_
  rw [hB,w64 (by omega) (by omega)];rfl
 | succ k =>
 have e8:decide (((k+1:Nat):Int)-1≥0)=true:=by rw [decide_eq_true_iff];omega
 rw [begLoop] at hB
 refine AW.condS (by simp -implicitDefEqProofs only[go_sem,seval,↓reduceIte];rfl) (fun h8=>?_) (fun h8=>?_)
 rotate_left
 ·rw [e8] at h8;cases h8
 refine AW.skip ?_
 simp -implicitDefEqProofs only[go_sem,seval,↓reduceIte]
 refine hK7 _ ?_
 have ek:((k+1:Nat):Int)-1=(k:Int):=by omega
 rw [ek]
 have hwk:IntKind.i64.wrap ((k:Int)-1)=(k:Int)-1:=w64 (by omega) (by omega)
 have hpl:([.int .i64 n.a,.int .i64 n.b,.int .i64 n.c]:List V)[k]? = some (.int .i64 (placeOf n k)):=by
  match k,hk3 with
  | 0,_=>rfl
  | 1,_=>rfl
  | 2,_=>rfl
 have hklt:(k:Int)<3:=by omega
 generalize placeOf n k=pl at hB hpl
 refine AW.seq_k fun K9 hK9=>?_
 refine AW.block ?_
 refine AW.seq_k fun K10 hK10=>?_
 refine AW.seq_k fun K hK=>AW.region (by kernel_rfl) ?_
 simp -implicitDefEqProofs only[go_sem,seval,↓reduceIte]
 refine CallA.pure hG (by kernel_rfl) ?_
 simp -implicitDefEqProofs only[go_sem,seval,↓reduceIte]
 refine (rPartsOf_spec G hG n.op).mono ?_
 rintro _ _ rfl
 simp -implicitDefEqProofs only[go_sem,seval,↓reduceIte]
 refine hK _ ?_
 clear hK K
 generalize hpo:partsOf n.op=po at hB ⊢
 by_cases hkp:k<po
 ·have e5:decide ((k:Int)≥(po:Int))=false:=by rw [decide_eq_false_iff_not];omega
  have hbs:Nat.blt k po=true:=by simpa using hkp
  rw [hbs] at hB
  refine AW.condS (by simp -implicitDefEqProofs only[go_sem,seval,↓reduceIte];rfl) (fun h11=>?_) (fun h11=>?_)
  ·rw [e5] at h11;cases h11
  refine AW.skip ?_
  simp -implicitDefEqProofs only[go_sem,seval,↓reduceIte]
  refine hK10 _ ?_
  refine AW.seq_k fun K12 hK12=>?_
  by_cases hpe:pl=last
  rotate_left
  ·have e6:(pl != last)=true:=by simpa using hpe
   rw [begStep_ne hpe] at hB
   refine AW.seq_k fun K hK=>AW.region (by kernel_rfl) ?_
   simp -implicitDefEqProofs only[go_sem,seval,↓reduceIte,Nat.mul_one,hpl,hklt,Int.natCast_nonneg,e6]
   refine hK _ ?_
   clear hK K
   refine AW.condS (by simp -implicitDefEqProofs only[go_sem,seval,↓reduceIte];rfl) (fun h13=>?_) (fun h13=>?_)
   ·refine AW.seq_k fun K hK=>AW.region (by kernel_rfl) ?_
    simp -implicitDefEqProofs only[go_sem,seval,↓reduceIte]
    refine hK _ ?_
    clear hK K
    refine AW.ret ?_
    simp -implicitDefEqProofs only[go_sem,seval,↓reduceIte]
    refine endK_some ?_
    rw [hB]
   ·cases h13
  have e6:(pl != last)=false:=by simpa using hpe
  refine AW.seq_k fun K hK=>AW.region (by kernel_rfl) ?_
  simp -implicitDefEqProofs only[go_sem,seval,↓reduceIte,Nat.mul_one,hpl,hklt,Int.natCast_nonneg,e6]
  refine hK _ ?_
  clear hK K
  refine AW.condS (by simp -implicitDefEqProofs only[go_sem,seval,↓reduceIte];rfl) (fun h13=>?_) (fun h13=>?_)
  ·cases h13
  refine AW.skip ?_
  simp -implicitDefEqProofs only[go_sem,seval,↓reduceIte]
  refine hK12 _ ?_
  refine AW.seq_k fun K hK=>AW.region (by kernel_rfl) ?_
  simp -implicitDefEqProofs only[go_sem,seval,↓reduceIte]
  refine CallA.pure hG (by kernel_rfl) ?_
  simp -implicitDefEqProofs only[go_sem,seval,↓reduceIte,recol_xns]
  refine (ih c.ent last (by omega) (by omega) (by omega)).mono ?_
  rintro _ _ rfl
  simp -implicitDefEqProofs only[go_sem,seval,↓reduceIte]
  refine hK _ ?_
  clear hK K
  have hge:=begR_ge s.l f last
  have hle:=begR_le s.l f last
  refine AW.seq_k fun K14 hK14=>?_
  by_cases hr0:begR s.l f last<0
  ·have e7:decide (begR s.l f last<0)=true:=by simpa using hr0
   rw [begStep_neg hpe hr0] at hB
   refine AW.seq_k fun K hK=>AW.region (by kernel_rfl) ?_
   simp -implicitDefEqProofs only[go_sem,seval,↓reduceIte,e7]
   refine hK _ ?_
   clear hK K
   refine AW.condS (by simp -implicitDefEqProofs only[go_sem,seval,↓reduceIte];rfl) (fun h15=>?_) (fun h15=>?_)
   ·refine AW.seq_k fun K hK=>AW.region (by kernel_rfl) ?_
    simp -implicitDefEqProofs only[go_sem,seval,↓reduceIte]
    refine hK _ ?_
    clear hK K
    refine AW.ret ?_
    simp -implicitDefEqProofs only[go_sem,seval,↓reduceIte]
    refine endK_some ?_
    rw [hB]
   ·cases h15
  have e7:decide (begR s.l f last<0)=false:=by simpa using hr0
  rw [begStep_pos hpe hr0] at hB
  refine AW.seq_k fun K hK=>AW.region (by kernel_rfl) ?_
  simp -implicitDefEqProofs only[go_sem,seval,↓reduceIte,e7]
  refine hK _ ?_
  clear hK K
  refine AW.condS (by simp -implicitDefEqProofs only[go_sem,seval,↓reduceIte];rfl) (fun h15=>?_) (fun h15=>?_)
  ·cases h15
  refine AW.skip ?_
  simp -implicitDefEqProofs only[go_sem,seval,↓reduceIte]
  refine hK14 _ ?_
  have hle2:=hle (by omega)
  generalize begR s.l f last=r at hB hge hle2 hr0 ⊢
  have hwr:IntKind.i64.wrap (r-1)=r-1:=w64 (by omega) (by omega)
  refine AW.region (by kernel_rfl) ?_
  simp -implicitDefEqProofs only[go_sem,seval,↓reduceIte,hwr]
  refine hK9 _ ?_
  refine AW.region (by kernel_rfl) ?_
  simp -implicitDefEqProofs only[go_sem,seval,↓reduceIte,hwk]
  refine hL6 _ ⟨(k,r-1),by show k<k+1;omega,⟨hB,by show k≤3;omega,by show -1≤r-1;omega,by show r-1≤(m:Int)-1;omega⟩,Weak.st (by simp -implicitDefEqProofs only[go_sem,seval,↓reduceIte];try rfl) (by simp -implicitDefEqProofs only[go_sem,seval,↓reduceIte];try rfl)⟩
 ·have e5:decide ((k:Int)≥(po:Int))=true:=by rw [decide_eq_true_iff];omega
  have hbs:Nat.blt k po=false:=by
   rw [Bool.eq_false_iff];simpa using hkp
  rw [hbs] at hB
  refine AW.condS (by simp -implicitDefEqProofs only[go_sem,seval,↓reduceIte];rfl) (fun h11=>?_) (fun h11=>?_)
  rotate_left
  ·rw [e5] at h11;cases h11
  refine AW.seq_k fun K12 hK12=>?_
  by_cases hpe:pl = -1
  rotate_left
  ·have e6:(pl != -1)=true:=by simpa using hpe
   rw [bsNo hpe] at hB
   refine AW.seq_k fun K hK=>AW.region (by kernel_rfl) ?_
   simp -implicitDefEqProofs only[go_sem,seval,↓reduceIte,Nat.mul_one,hpl,hklt,Int.natCast_nonneg,e6]
   refine hK _ ?_
   clear hK K
   refine AW.condS (by simp -implicitDefEqProofs only[go_sem,seval,↓reduceIte];rfl) (fun h13=>?_) (fun h13=>?_)
   ·refine AW.seq_k fun K hK=>AW.region (by kernel_rfl) ?_
    simp -implicitDefEqProofs only[go_sem,seval,↓reduceIte]
    refine hK _ ?_
    clear hK K
    refine AW.ret ?_
    simp -implicitDefEqProofs only[go_sem,seval,↓reduceIte]
    refine endK_some ?_
    rw [hB]
   ·cases h13
  have e6:(pl != -1)=false:=by simpa using hpe
  rw [bsNone hpe] at hB
  refine AW.seq_k fun K hK=>AW.region (by kernel_rfl) ?_
  simp -implicitDefEqProofs only[go_sem,seval,↓reduceIte,Nat.mul_one,hpl,hklt,Int.natCast_nonneg,e6]
  refine hK _ ?_
  clear hK K
  refine AW.condS (by simp -implicitDefEqProofs only[go_sem,seval,↓reduceIte];rfl) (fun h13=>?_) (fun h13=>?_)
  ·cases h13
  refine AW.skip ?_
  simp -implicitDefEqProofs only[go_sem,seval,↓reduceIte]
  refine hK12 _ ?_
  refine AW.exit ?_
  simp -implicitDefEqProofs only[go_sem,seval,↓reduceIte]
  refine hK9 _ ?_
  refine AW.region (by kernel_rfl) ?_
  simp -implicitDefEqProofs only[go_sem,seval,↓reduceIte,hwk]
  refine hL6 _ ⟨(k,last),by show k<k+1;omega,⟨hB,by show k≤3;omega,hl1,hl2⟩,Weak.st (by simp -implicitDefEqProofs only[go_sem,seval,↓reduceIte];try rfl) (by simp -implicitDefEqProofs only[go_sem,seval,↓reduceIte];try rfl)⟩
def dep0 (s:Sl XN) (G:Nat→V) (i d:Int):Prop:=∀ c,Spec Tryz.prog G 64 [encSl c 6 encXN s,.int .i64 i] hNone (fun v _=>v = .int .i64 d)
theorem rDepth_neg (G:Nat→V) (hG:GOk G) (s:Sl XN):dep0 s G (-1) 0:=by
 intro c
 refine Spec.of_code' 0 30 [.tmp 4] Tryz.func64 rfl rfl rfl rfl fun X=>?_
 refine AW.seq_k fun K hK=>AW.region (by kernel_rfl) ?_
 simp -implicitDefEqProofs only[go_sem,seval,↓reduceIte]
 refine hK _ ?_
 clear hK K
 refine AW.seq_k fun K1 hK1=>?_
 refine AW.seq_k fun K hK=>AW.region (by kernel_rfl) ?_
 simp -implicitDefEqProofs only[go_sem,seval,↓reduceIte]
 refine hK _ ?_
 clear hK K
 refine AW.condS (by simp -implicitDefEqProofs only[go_sem,seval,↓reduceIte];rfl) (fun h2=>?_) (fun h2=>?_)
 ·refine AW.seq_k fun K hK=>AW.region (by kernel_rfl) ?_
  simp -implicitDefEqProofs only[go_sem,seval,↓reduceIte]
  refine hK _ ?_
  clear hK K
  refine AW.ret ?_
  simp -implicitDefEqProofs only[go_sem,seval,↓reduceIte]
  refine endK_some ?_
  rfl
 ·cases h2
theorem rDepth_step (G:Nat→V) (hG:GOk G) (s:Sl XN) (m:Nat) (n:XN) (hg:s.l[m]? = some n) (d0 d1 d2:Int) (h0:dep0 s G n.a d0) (h1:dep0 s G n.b d1) (h2:dep0 s G n.c d2) (hb:(0≤d0∧d0<1000000)∧(0≤d1∧d1<1000000)∧(0≤d2∧d2<1000000)) :
  dep0 s G m (max (max d0 d1) d2+1):=by
 intro c
 refine Spec.of_code' 0 30 [.tmp 4] Tryz.func64 rfl rfl rfl rfl fun X=>?_
 refine AW.seq_k fun K hK=>AW.region (by kernel_rfl) ?_
 simp -implicitDefEqProofs only[go_sem,seval,↓reduceIte]
 refine hK _ ?_
 clear hK K
 refine AW.seq_k fun K1 hK1=>?_
 have e1:decide ((m:Int)<0)=false:=by rw [decide_eq_false_iff_not];omega
 refine AW.seq_k fun K hK=>AW.region (by kernel_rfl) ?_
 simp -implicitDefEqProofs only[go_sem,seval,↓reduceIte,e1]
 refine hK _ ?_
 clear hK K
 refine AW.condS (by simp -implicitDefEqProofs only[go_sem,seval,↓reduceIte];rfl) (fun h3=>?_) (fun h3=>?_)
 ·cases h3
 refine AW.skip ?_
 simp -implicitDefEqProofs only[go_sem,seval,↓reduceIte]
 refine hK1 _ ?_
 have pc:∀ i d,dep0 s G i d→PureC Tryz.prog G 64 [encSl c 6 encXN s,.int .i64 i] (.int .i64 d):=fun i d h=>⟨by kernel_rfl,by
  simp only [List.map_cons,List.map_nil,recol_xns,recol_int]
  refine (h c.ent).mono ?_
  rintro _ _ rfl
  rfl⟩
 have hmx:(if d2 > (if d1 > d0 then d1 else d0) then d2 else (if d1 > d0 then d1 else d0))=max (max d0 d1) d2:=by
  rw [Int.max_def,Int.max_def]
  split<;>split<;>split<;>omega
 have hw:IntKind.i64.wrap (1+max (max d0 d1) d2)=max (max d0 d1) d2+1:=by rw [w64 (by omega) (by omega)];omega
 refine AW.seq_k fun K hK=>AW.regionT ⟨fun i=>if i=6 then .int .i64 d0 else if i=13 then .int .i64 d1 else if i=20 then .int .i64 d2 else .top,fun _ => .pure⟩ (by kernel_rfl) hG (by kernel_rfl) (by kernel_rfl) ?_
 simp -implicitDefEqProofs only[go_sem,seval,↓reduceIte,hg,encXN_K,hmx,hw]
 refine ⟨pc _ _ h0,pc _ _ h1,pc _ _ h2,?_⟩
 refine hK _ ?_
 clear hK K
 refine AW.ret ?_
 simp -implicitDefEqProofs only[go_sem,seval,↓reduceIte]
 refine endK_some ?_
 rfl
theorem depth_le:∀ x:X,x.depth≤x.size
 | .leaf .. => Nat.le_refl _
 | .un _ a=>by have:=depth_le a;simp only [X.depth,X.size];omega
 | .bin _ a b=>by have:=depth_le a;have:=depth_le b;simp only [X.depth,X.size];omega
 | .ite a b c=>by have:=depth_le a;have:=depth_le b;have:=depth_le c;simp only [X.depth,X.size];omega
theorem At.size_le {l:List XN} {x:X} {b:Nat} (h:At l x b):b+x.size≤l.length:=by
 obtain ⟨pre,post,rfl,hb⟩:=h
 rw [List.length_append,List.length_append,X.row_len];omega
theorem rDepth_at (G:Nat→V) (hG:GOk G) (s:Sl XN) (hs:s.l.length<1000000):∀ (x:X) (b:Nat),At s.l x b→dep0 s G ((b:Int)+x.size-1) x.depth
 | .leaf op num name,b,h=>by
  have:=rDepth_step G hG s b _ h.get 0 0 0 (rDepth_neg G hG s) (rDepth_neg G hG s) (rDepth_neg G hG s) ⟨by decide,by decide,by decide⟩
  have e:(b:Int)+(X.leaf op num name).size-1=(b:Nat):=by simp only [X.size];omega
  rw [e];exact this
 | .un op a,b,h=>by
  have ha:=h.un
  have ih:=rDepth_at G hG s hs a b ha
  have hz:=At.size_le h
  have hd:=depth_le a
  have hp:=a.size_pos
  have:=rDepth_step G hG s _ _ h.get _ 0 0 ih (rDepth_neg G hG s) (rDepth_neg G hG s) ⟨⟨by omega,by simp only [X.size] at hz;omega⟩,by decide,by decide⟩
  have e:(b:Int)+(X.un op a).size-1=((b+(X.un op a).size-1:Nat):Int):=by simp only [X.size];omega
  rw [e]
  have e2:((X.un op a).depth:Int)=max (max (a.depth:Int) 0) 0+1:=by simp only [X.depth];omega
  rw [e2];exact this
 | .bin op x y,b,h=>by
  obtain ⟨hx,hy⟩:=h.bin
  have ihx:=rDepth_at G hG s hs x b hx
  have ihy:=rDepth_at G hG s hs y (b+x.size) hy
  have hz:=At.size_le h
  have hd1:=depth_le x
  have hd2:=depth_le y
  have hp1:=x.size_pos
  have hp2:=y.size_pos
  have e3:((b+x.size:Nat):Int)+y.size-1=(b:Int)+x.size+y.size-1:=by omega
  rw [e3] at ihy
  simp only [X.size] at hz
  have:=rDepth_step G hG s _ _ h.get _ _ 0 ihx ihy (rDepth_neg G hG s) ⟨⟨by omega,by omega⟩,⟨by omega,by omega⟩,by decide⟩
  have e:(b:Int)+(X.bin op x y).size-1=((b+(X.bin op x y).size-1:Nat):Int):=by simp only [X.size];omega
  rw [e]
  have e2:((X.bin op x y).depth:Int)=max (max (x.depth:Int) y.depth) 0+1:=by simp only [X.depth];omega
  rw [e2];exact this
 | .ite x y z,b,h=>by
  obtain ⟨hx,hy,hz'⟩:=h.ite
  have ihx:=rDepth_at G hG s hs x b hx
  have ihy:=rDepth_at G hG s hs y (b+x.size) hy
  have ihz:=rDepth_at G hG s hs z (b+x.size+y.size) hz'
  have hz:=At.size_le h
  have hd1:=depth_le x
  have hd2:=depth_le y
  have hd3:=depth_le z
  have hp1:=x.size_pos
  have hp2:=y.size_pos
  have hp3:=z.size_pos
  have e3:((b+x.size:Nat):Int)+y.size-1=(b:Int)+x.size+y.size-1:=by omega
  rw [e3] at ihy
  have e4:((b+x.size+y.size:Nat):Int)+z.size-1=(b:Int)+x.size+y.size+z.size-1:=by omega
  rw [e4] at ihz
  simp only [X.size] at hz
  have:=rDepth_step G hG s _ _ h.get _ _ _ ihx ihy ihz ⟨⟨by omega,by omega⟩,⟨by omega,by omega⟩,⟨by omega,by omega⟩⟩
  have e:(b:Int)+(X.ite x y z).size-1=((b+(X.ite x y z).size-1:Nat):Int):=by simp only [X.size];omega
  rw [e]
  have e2:((X.ite x y z).depth:Int)=max (max (x.depth:Int) y.depth) z.depth+1:=by simp only [X.depth];omega
  rw [e2];exact this
end Go.Hs
end

section
namespace Go.Hs
open Go.Proofs
set_option maxRecDepth 10000
theorem joinW_cons (w:List UInt8) {b:List (List UInt8)} (h:b≠[]):joinW (w::b)=w++32::joinW b:=by
 cases b with
 | nil=>exact absurd rfl h
 | cons=>rfl
theorem joinW_app:∀ {a b:List (List UInt8)},a≠[]→b≠[]→joinW (a++b)=joinW a++32::joinW b
 | [],_,h,_=>absurd rfl h
 | [w],b,_,hb=>by rw [List.singleton_append,joinW_cons w hb];rfl
 | w::v::r,b,_,hb=>by
  rw [List.cons_append,joinW_cons w (by simp),joinW_app (a:=v::r) (by simp) hb,joinW_cons w (by simp)]
  simp
theorem W_ne (x:X) (k:Int):x.W k≠[]:=by
 cases x with
 | leaf=>simp [X.W]
 | un=>rw [X.W];unfold parW;split<;>simp
 | bin=>rw [X.W];unfold parW;split<;>simp
 | ite=>simp [X.W]
theorem body_ne (x:X):x.body≠[]:=by cases x<;>simp [X.body]
theorem join_par {ts:List (List UInt8)} (h:ts≠[]):joinW (parW true ts)=[40,32]++joinW ts++[32,41]:=by
 show joinW ([40]::(ts++[[41]]))=_
 rw [joinW_cons _ (by simp),joinW_app h (by simp)]
 simp [joinW]
theorem join_W_len {x:X} (h:x.ok=true) (hf:x.fit) (k:Int):(joinW (x.W k)).length≤66 * x.size:=Nat.le_trans (joinW_len _) (W_len x h hf k)
theorem rPrint_spec (G:Nat→V) (hG:GOk G) (s:Sl XN) (hs:s.l.length<1000):∀ (m:Nat) (y:X) (b:Nat) (c:Col) (k:Int),y.size≤m→At s.l y b→y.ok=true→y.fit→0≤k→k≤9 →
  Spec Tryz.prog G 60 [encSl c 6 encXN s,.int .i64 ((b:Int)+y.size-1),.int .i64 k] hNone (fun v _=>v = .str (joinW (y.W k))):=by
 intro m
 induction m with
 | zero=>intro y b c k hm;have:=y.size_pos;omega
 | succ m ih =>
 intro y b c k hm hat hy hf hk0 hk9
 refine Spec.of_code' 0 96 [.tmp 6] Tryz.func60 rfl rfl rfl rfl fun X0=>?_
 have hyp:=y.size_pos
 have hget:=hat.get
 have hsz:b+y.size≤s.l.length:=by
  obtain ⟨pre,post,e1,e2⟩:=hat
  have:=congrArg List.length e1
  simp only [List.length_append,X.row_len] at this
  omega
 have hW:=W_body hy hk9 (b:Int)
 have hop:=top_op hy (b:Int)
 have hbl:(joinW y.body).length≤66 * y.size:=by
  have:=W_body hy (k:=0) (by decide) (b:Int)
  have h2:=join_W_len hy hf 0
  rw [this] at h2
  cases hq:decide (lvl (y.top b).op.toNat<0)
  ·rw [hq] at h2;exact h2
  ·rw [hq,join_par (body_ne y)] at h2
   simp only [List.length_append] at h2
   omega
 have hpos:((b:Int)+y.size-1)=((b+y.size-1:Nat):Int):=by omega
 have hlt:b+y.size-1<s.l.length:=by omega
 have hmx:∀ z:Nat,z<1000000→¬ ((z:Int) > IntKind.i64.max):=by
  intro z hz
  rw [show IntKind.i64.max=9223372036854775807 from rfl];omega
 rw [hpos]
 generalize hn:y.top b=n at hget hW hop
 generalize y.W k=res at hW ⊢
 refine AW.seq_k fun K hK=>AW.region (by kernel_rfl) ?_
 simp -implicitDefEqProofs only[go_sem,seval,↓reduceIte]
 refine hK _ ?_
 clear hK K
 refine AW.seq_k fun K hK=>AW.region (by kernel_rfl) ?_
 simp -implicitDefEqProofs only[go_sem,seval,↓reduceIte,hget,hlt,encXN_K]
 intro g7
 refine hK _ ?_
 clear hK K
 refine AW.weak (Weak.stF (fun o=>o==7) (l:=[(0,encSl c 6 encXN s),(2,.int .i64 k),(7,.view .new (encXN n))]) (m:=[]) ?_ trivial) ?_
 ·simp -implicitDefEqProofs only[go_sem,seval,↓reduceIte]
  exact ⟨Fz.same _,Fz.same _,Fz.ptr (v:=encXN n) (c := .new) (fz:=0) rfl (by simp -implicitDefEqProofs only[go_sem,seval,↓reduceIte];try rfl)⟩
 obtain ⟨on,hon⟩:∃ on:Nat,n.op=on:=⟨n.op.toNat,by omega⟩
 have hot:n.op.toNat=on:=by omega
 have hon22:on≤22:=by omega
 refine AW.seq_k fun K hK=>AW.region (by kernel_rfl) ?_
 simp -implicitDefEqProofs only[go_sem,seval,↓reduceIte]
 refine hK _ ?_
 clear hK K
 refine AW.seq_k fun K hK=>AW.region (by kernel_rfl) ?_
 simp -implicitDefEqProofs only[go_sem,seval,↓reduceIte,encXN_K]
 refine CallA.pure hG (by kernel_rfl) ?_
 simp -implicitDefEqProofs only[go_sem,seval,↓reduceIte]
 rw [hon]
 refine (rLev_spec G hG on (by omega)).mono ?_
 rintro _ _ rfl
 simp -implicitDefEqProofs only[go_sem,seval,↓reduceIte]
 refine hK _ ?_
 clear hK K
 have pw:∀ (z:X) (bz:Nat) (lv:Int),z.size≤m→At s.l z bz→z.ok=true→z.fit→0≤lv→lv≤9→PureC Tryz.prog G 60 [encSl c 6 encXN s,.int .i64 ((bz:Int)+z.size-1),.int .i64 lv] (.str (joinW (z.W lv))):=by
  intro z bz lv h1 h2 h3 h4 h5 h6
  refine ⟨by kernel_rfl,?_⟩
  simp -implicitDefEqProofs only[go_sem,seval,↓reduceIte,recol_xns]
  refine (ih z bz _ lv h1 h2 h3 h4 h5 h6).mono ?_
  rintro _ _ rfl
  rfl
 have pS:PureC Tryz.prog G 92 [] (encSl .new 1 V.str (.mk false sgnR)):=⟨by kernel_rfl,by
  simp -implicitDefEqProofs only[go_sem,seval,↓reduceIte,List.map_nil]
  refine (rSigns_spec G hG).mono ?_
  rintro _ _ rfl
  exact recol_enc _ _ _ (fun _=>rfl) _⟩
 refine AW.seqJ (fun (_:Unit)=>st [(2,.int .i64 k),(8,.str (joinW y.body)),(9,.int .i64 (lvl on))] []) (fun _=>True) (fun K1 hK1=>?_) ?_
 rotate_left
 ·intro _ _
  refine AW.seq_k fun K2 hK2=>?_
  rw [hot] at hW
  by_cases hlk:lvl on<k
  ·have e1:decide (lvl on<k)=true:=by simpa using hlk
   rw [e1] at hW
   have l1:=hmx (2+(joinW y.body).length) (by omega)
   have l2:=hmx ((joinW y.body).length+1+1+2) (by omega)
   refine AW.seq_k fun K hK=>AW.region (by kernel_rfl) ?_
   simp -implicitDefEqProofs only[go_sem,seval,↓reduceIte,e1]
   refine hK _ ?_
   clear hK K
   refine AW.condS (by simp -implicitDefEqProofs only[go_sem,seval,↓reduceIte];rfl) (fun h99=>?_) (fun h99=>?_)
   rotate_left
   ·cases h99
   refine AW.seq_k fun K hK=>AW.region (by kernel_rfl) ?_
   simp -implicitDefEqProofs only[go_sem,seval,↓reduceIte,l1,l2]
   refine hK _ ?_
   clear hK K
   refine AW.ret ?_
   simp -implicitDefEqProofs only[go_sem,seval,↓reduceIte]
   refine endK_some ?_
   rw [hW,join_par (body_ne y)]
   try simp
  ·have e1:decide (lvl on<k)=false:=by simpa using hlk
   rw [e1] at hW
   refine AW.seq_k fun K hK=>AW.region (by kernel_rfl) ?_
   simp -implicitDefEqProofs only[go_sem,seval,↓reduceIte,e1]
   refine hK _ ?_
   clear hK K
   refine AW.condS (by simp -implicitDefEqProofs only[go_sem,seval,↓reduceIte];rfl) (fun h99=>?_) (fun h99=>?_)
   ·cases h99
   refine AW.skip ?_
   simp -implicitDefEqProofs only[go_sem,seval,↓reduceIte]
   refine hK2 _ ?_
   refine AW.seq_k fun K hK=>AW.region (by kernel_rfl) ?_
   simp -implicitDefEqProofs only[go_sem,seval,↓reduceIte]
   refine hK _ ?_
   clear hK K
   refine AW.ret ?_
   simp -implicitDefEqProofs only[go_sem,seval,↓reduceIte]
   refine endK_some ?_
   rw [hW];rfl
 refine AW.seq_k fun K hK=>AW.region (by kernel_rfl) ?_
 simp -implicitDefEqProofs only[go_sem,seval,↓reduceIte,encXN_K]
 refine CallA.pure hG (by kernel_rfl) ?_
 simp -implicitDefEqProofs only[go_sem,seval,↓reduceIte]
 refine (rPartsOf_spec G hG on).mono ?_
 rintro _ _ rfl
 simp -implicitDefEqProofs only[go_sem,seval,↓reduceIte]
 refine hK _ ?_
 clear hK K
 refine AW.block ?_
 cases y with
 | leaf op num name =>
  obtain rfl:n=⟨op,num,name,-1,-1,-1⟩:=hn.symm
  rcases leaf_cases hy with ⟨rfl,h1,rfl⟩ | ⟨rfl,rfl,h1⟩ | ⟨rfl,rfl,rfl⟩ | ⟨rfl,rfl,rfl⟩
  ·have hf:num≤9223372036854775807:=hf
   obtain rfl:on=1:=by have:(1:Int)=on:=hon;omega
   have hp:partsOf ((1:Nat):Int)=0:=rfl
   refine AW.seq_k fun K hK=>AW.region (by kernel_rfl) ?_
   simp -implicitDefEqProofs only[go_sem,seval,↓reduceIte,hp]
   refine hK _ ?_
   clear hK K
   refine AW.condS (by simp -implicitDefEqProofs only[go_sem,seval,↓reduceIte];rfl) (fun h22=>?_) (fun h22=>?_)
   rotate_left
   ·cases h22
   refine AW.seq_k fun K hK=>AW.region (by kernel_rfl) ?_
   simp -implicitDefEqProofs only[go_sem,seval,↓reduceIte,encXN_K]
   refine hK _ ?_
   clear hK K
   refine AW.block ?_
   refine AW.seq_k fun K hK=>AW.region (by kernel_rfl) ?_
   simp -implicitDefEqProofs only[go_sem,seval,↓reduceIte]
   refine hK _ ?_
   clear hK K
   refine AW.condS (by simp -implicitDefEqProofs only[go_sem,seval,↓reduceIte];rfl) (fun h23=>?_) (fun h23=>?_)
   rotate_left
   ·cases h23
   refine AW.region (by kernel_rfl) ?_
   simp -implicitDefEqProofs only[go_sem,seval,↓reduceIte,encXN_K]
   refine CallA.pure hG (by kernel_rfl) ?_
   simp -implicitDefEqProofs only[go_sem,seval,↓reduceIte]
   refine (rPut_spec G hG num ⟨by show -9223372036854775808≤num;omega,hf⟩).mono ?_
   rintro _ _ rfl
   simp -implicitDefEqProofs only[go_sem,seval,↓reduceIte]
   exact hK1 _ () trivial (Weak.st (by simp -implicitDefEqProofs only[go_sem,seval,↓reduceIte];try rfl) (by simp -implicitDefEqProofs only[go_sem,seval,↓reduceIte]))
  ·obtain rfl:on=2:=by have:(2:Int)=on:=hon;omega
   have hp:partsOf ((2:Nat):Int)=0:=rfl
   refine AW.seq_k fun K hK=>AW.region (by kernel_rfl) ?_
   simp -implicitDefEqProofs only[go_sem,seval,↓reduceIte,hp]
   refine hK _ ?_
   clear hK K
   refine AW.condS (by simp -implicitDefEqProofs only[go_sem,seval,↓reduceIte];rfl) (fun h22=>?_) (fun h22=>?_)
   rotate_left
   ·cases h22
   refine AW.seq_k fun K hK=>AW.region (by kernel_rfl) ?_
   simp -implicitDefEqProofs only[go_sem,seval,↓reduceIte,encXN_K]
   refine hK _ ?_
   clear hK K
   refine AW.block ?_
   refine AW.seq_k fun K hK=>AW.region (by kernel_rfl) ?_
   simp -implicitDefEqProofs only[go_sem,seval,↓reduceIte]
   refine hK _ ?_
   clear hK K
   refine AW.condS (by simp -implicitDefEqProofs only[go_sem,seval,↓reduceIte];rfl) (fun h23=>?_) (fun h23=>?_)
   ·cases h23
   clear h23
   refine AW.seq_k fun K hK=>AW.region (by kernel_rfl) ?_
   simp -implicitDefEqProofs only[go_sem,seval,↓reduceIte]
   refine hK _ ?_
   clear hK K
   refine AW.condS (by simp -implicitDefEqProofs only[go_sem,seval,↓reduceIte];rfl) (fun h23=>?_) (fun h23=>?_)
   rotate_left
   ·cases h23
   refine AW.region (by kernel_rfl) ?_
   simp -implicitDefEqProofs only[go_sem,seval,↓reduceIte,encXN_K]
   exact hK1 _ () trivial (Weak.st (by simp -implicitDefEqProofs only[go_sem,seval,↓reduceIte];try rfl) (by simp -implicitDefEqProofs only[go_sem,seval,↓reduceIte]))
  ·obtain rfl:on=3:=by have:(3:Int)=on:=hon;omega
   have hp:partsOf ((3:Nat):Int)=0:=rfl
   refine AW.seq_k fun K hK=>AW.region (by kernel_rfl) ?_
   simp -implicitDefEqProofs only[go_sem,seval,↓reduceIte,hp]
   refine hK _ ?_
   clear hK K
   refine AW.condS (by simp -implicitDefEqProofs only[go_sem,seval,↓reduceIte];rfl) (fun h22=>?_) (fun h22=>?_)
   rotate_left
   ·cases h22
   refine AW.seq_k fun K hK=>AW.region (by kernel_rfl) ?_
   simp -implicitDefEqProofs only[go_sem,seval,↓reduceIte,encXN_K]
   refine hK _ ?_
   clear hK K
   refine AW.block ?_
   refine AW.seq_k fun K hK=>AW.region (by kernel_rfl) ?_
   simp -implicitDefEqProofs only[go_sem,seval,↓reduceIte]
   refine hK _ ?_
   clear hK K
   refine AW.condS (by simp -implicitDefEqProofs only[go_sem,seval,↓reduceIte];rfl) (fun h23=>?_) (fun h23=>?_)
   ·cases h23
   clear h23
   refine AW.seq_k fun K hK=>AW.region (by kernel_rfl) ?_
   simp -implicitDefEqProofs only[go_sem,seval,↓reduceIte]
   refine hK _ ?_
   clear hK K
   refine AW.condS (by simp -implicitDefEqProofs only[go_sem,seval,↓reduceIte];rfl) (fun h23=>?_) (fun h23=>?_)
   ·cases h23
   clear h23
   refine AW.seq_k fun K hK=>AW.region (by kernel_rfl) ?_
   simp -implicitDefEqProofs only[go_sem,seval,↓reduceIte]
   refine hK _ ?_
   clear hK K
   refine AW.condS (by simp -implicitDefEqProofs only[go_sem,seval,↓reduceIte];rfl) (fun h23=>?_) (fun h23=>?_)
   rotate_left
   ·cases h23
   refine AW.region (by kernel_rfl) ?_
   simp -implicitDefEqProofs only[go_sem,seval,↓reduceIte,encXN_K]
   exact hK1 _ () trivial (Weak.st (by simp -implicitDefEqProofs only[go_sem,seval,↓reduceIte];try rfl) (by simp -implicitDefEqProofs only[go_sem,seval,↓reduceIte]))
  ·obtain rfl:on=4:=by have:(4:Int)=on:=hon;omega
   have hp:partsOf ((4:Nat):Int)=0:=rfl
   refine AW.seq_k fun K hK=>AW.region (by kernel_rfl) ?_
   simp -implicitDefEqProofs only[go_sem,seval,↓reduceIte,hp]
   refine hK _ ?_
   clear hK K
   refine AW.condS (by simp -implicitDefEqProofs only[go_sem,seval,↓reduceIte];rfl) (fun h22=>?_) (fun h22=>?_)
   rotate_left
   ·cases h22
   refine AW.seq_k fun K hK=>AW.region (by kernel_rfl) ?_
   simp -implicitDefEqProofs only[go_sem,seval,↓reduceIte,encXN_K]
   refine hK _ ?_
   clear hK K
   refine AW.block ?_
   refine AW.seq_k fun K hK=>AW.region (by kernel_rfl) ?_
   simp -implicitDefEqProofs only[go_sem,seval,↓reduceIte]
   refine hK _ ?_
   clear hK K
   refine AW.condS (by simp -implicitDefEqProofs only[go_sem,seval,↓reduceIte];rfl) (fun h23=>?_) (fun h23=>?_)
   ·cases h23
   clear h23
   refine AW.seq_k fun K hK=>AW.region (by kernel_rfl) ?_
   simp -implicitDefEqProofs only[go_sem,seval,↓reduceIte]
   refine hK _ ?_
   clear hK K
   refine AW.condS (by simp -implicitDefEqProofs only[go_sem,seval,↓reduceIte];rfl) (fun h23=>?_) (fun h23=>?_)
   ·cases h23
   clear h23
   refine AW.seq_k fun K hK=>AW.region (by kernel_rfl) ?_
   simp -implicitDefEqProofs only[go_sem,seval,↓reduceIte]
   refine hK _ ?_
   clear hK K
   refine AW.condS (by simp -implicitDefEqProofs only[go_sem,seval,↓reduceIte];rfl) (fun h23=>?_) (fun h23=>?_)
   ·cases h23
   clear h23
   refine AW.region (by kernel_rfl) ?_
   simp -implicitDefEqProofs only[go_sem,seval,↓reduceIte,encXN_K]
   exact hK1 _ () trivial (Weak.st (by simp -implicitDefEqProofs only[go_sem,seval,↓reduceIte];try rfl) (by simp -implicitDefEqProofs only[go_sem,seval,↓reduceIte]))
 | un op a =>
  obtain rfl:n=⟨op,0,[],(b:Int)+a.size-1,-1,-1⟩:=hn.symm
  simp only [X.ok,Bool.and_eq_true,decide_eq_true_eq] at hy
  have hon:op=on:=hon
  subst hon
  have hp:partsOf on=1:=by unfold partsOf;rw [if_neg (by omega),if_pos (by omega)]
  have hlv:lvl on=9:=by
   have:on=5∨on=6:=by omega
   rcases this with h | h<;>rw [h]<;>rfl
  have hwa:=pw a b 9 (by simp only [X.size] at hm;omega) hat.un hy.2 hf (by decide) (by decide)
  have hla:=join_W_len hy.2 hf 9
  have hsl:=sg_len on (by omega)
  have hsg:=sgnR_get on (by omega) (by omega)
  have hj:joinW (X.un (on:Int) a).body=sgT on++[32]++joinW (a.W 9):=by
   rw [X.body,joinW_cons _ (W_ne a 9)]
   show sgT ((on:Int).toNat)++_=_
   rw [Int.toNat_natCast];simp
  have hsz2:a.size<1000:=by simp only [X.size] at hsz;omega
  generalize joinW (a.W 9)=ta at hwa hla hj
  generalize sgT on=sg at hsl hsg hj
  have l1:=hmx (sg.length+1) (by omega)
  have l2:=hmx ((sg++[32]).length+ta.length) (by simp only [List.length_append,List.length_cons,List.length_nil];omega)
  have hsr:(Sl.mk false sgnR).l=sgnR:=rfl
  rw [hlv] at hK1 ⊢
  refine AW.seq_k fun K hK=>AW.region (by kernel_rfl) ?_
  simp -implicitDefEqProofs only[go_sem,seval,↓reduceIte,hp]
  refine hK _ ?_
  clear hK K
  refine AW.condS (by simp -implicitDefEqProofs only[go_sem,seval,↓reduceIte];rfl) (fun h22=>?_) (fun h22=>?_)
  ·cases h22
  clear h22
  refine AW.seq_k fun K hK=>AW.region (by kernel_rfl) ?_
  simp -implicitDefEqProofs only[go_sem,seval,↓reduceIte,hp]
  refine hK _ ?_
  clear hK K
  refine AW.condS (by simp -implicitDefEqProofs only[go_sem,seval,↓reduceIte];rfl) (fun h22=>?_) (fun h22=>?_)
  rotate_left
  ·cases h22
  refine AW.regionT ⟨fun i=>if i=0 then encSl .new 1 V.str (.mk false sgnR) else .str ta,fun i=>if i=0 then .pure else if i=10 then .pure else .lend⟩ (by kernel_rfl) hG (by kernel_rfl) (by kernel_rfl) ?_
  simp -implicitDefEqProofs only[go_sem,seval,↓reduceIte,encXN_K,hsr,hsg,l1,l2]
  refine ⟨pS,hwa,?_⟩
  exact hK1 _ () trivial (Weak.st (by rw [hj];simp -implicitDefEqProofs only[go_sem,seval,↓reduceIte];try rfl) (by simp -implicitDefEqProofs only[go_sem,seval,↓reduceIte]))
 | bin op a b' =>
  obtain rfl:n=⟨op,0,[],(b:Int)+a.size-1,(b:Int)+a.size+b'.size-1,-1⟩:=hn.symm
  simp only [X.ok,Bool.and_eq_true,decide_eq_true_eq] at hy
  have hon:op=on:=hon
  subst hon
  have hp:partsOf on=2:=by unfold partsOf;rw [if_neg (by omega),if_neg (by omega),if_pos (by omega)]
  obtain ⟨l1,l2,_,_⟩:=lvl_rng on (by omega) (by omega)
  simp only [X.size] at hm hsz
  have hwa:=pw a b (lvl on) (by omega) hat.bin.1 hy.1.2 hf.1 (by omega) (by omega)
  have hwb:=pw b' (b+a.size) (lvl on+1) (by omega) hat.bin.2 hy.2 hf.2 (by omega) (by omega)
  rw [Int.natCast_add] at hwb
  have hw:IntKind.i64.wrap (lvl on+1)=lvl on+1:=w64 (by omega) (by omega)
  have hla:=join_W_len hy.1.2 hf.1 (lvl on)
  have hlb:=join_W_len hy.2 hf.2 (lvl on+1)
  have hsl:=sg_len on (by omega)
  have hsg:=sgnR_get on (by omega) (by omega)
  have hj:joinW (X.bin (on:Int) a b').body=joinW (a.W (lvl on))++[32]++sgT on++[32]++joinW (b'.W (lvl on+1)):=by
   rw [X.body,joinW_app (W_ne a _) (by simp),joinW_cons _ (W_ne b' _)]
   rw [Int.toNat_natCast];simp
  generalize joinW (a.W (lvl on))=ta at hwa hla hj
  generalize joinW (b'.W (lvl on+1))=tb at hwb hlb hj
  generalize sgT on=sg at hsl hsg hj
  have m1:=hmx (ta.length+1) (by omega)
  have m2:=hmx ((ta++[32]).length+sg.length) (by simp only [List.length_append,List.length_cons,List.length_nil];omega)
  have m3:=hmx ((ta++[32]++sg).length+1) (by simp only [List.length_append,List.length_cons,List.length_nil];omega)
  have m4:=hmx ((ta++[32]++sg++[32]).length+tb.length) (by simp only [List.length_append,List.length_cons,List.length_nil];omega)
  have hsr:(Sl.mk false sgnR).l=sgnR:=rfl
  refine AW.seq_k fun K hK=>AW.region (by kernel_rfl) ?_
  simp -implicitDefEqProofs only[go_sem,seval,↓reduceIte,hp]
  refine hK _ ?_
  clear hK K
  refine AW.condS (by simp -implicitDefEqProofs only[go_sem,seval,↓reduceIte];rfl) (fun h22=>?_) (fun h22=>?_)
  ·cases h22
  clear h22
  refine AW.seq_k fun K hK=>AW.region (by kernel_rfl) ?_
  simp -implicitDefEqProofs only[go_sem,seval,↓reduceIte,hp]
  refine hK _ ?_
  clear hK K
  refine AW.condS (by simp -implicitDefEqProofs only[go_sem,seval,↓reduceIte];rfl) (fun h22=>?_) (fun h22=>?_)
  ·cases h22
  clear h22
  refine AW.seq_k fun K hK=>AW.region (by kernel_rfl) ?_
  simp -implicitDefEqProofs only[go_sem,seval,↓reduceIte,hp]
  refine hK _ ?_
  clear hK K
  refine AW.condS (by simp -implicitDefEqProofs only[go_sem,seval,↓reduceIte];rfl) (fun h22=>?_) (fun h22=>?_)
  rotate_left
  ·cases h22
  refine AW.regionT ⟨fun i=>if i=4 then .str ta else if i=6 then encSl .new 1 V.str (.mk false sgnR) else .str tb,fun i=>if i=4 then .pure else if i=6 then .pure else if i=18 then .pure else .lend⟩ (by kernel_rfl) hG (by kernel_rfl) (by kernel_rfl) ?_
  simp -implicitDefEqProofs only[go_sem,seval,↓reduceIte,encXN_K,hsr,hsg,m1,m2,m3,m4,hw]
  refine ⟨hwa,pS,hwb,?_⟩
  exact hK1 _ () trivial (Weak.st (by rw [hj];simp -implicitDefEqProofs only[go_sem,seval,↓reduceIte];try rfl) (by simp -implicitDefEqProofs only[go_sem,seval,↓reduceIte]))
 | ite a b' c' =>
  obtain rfl:n=⟨22,0,[],(b:Int)+a.size-1,(b:Int)+a.size+b'.size-1,(b:Int)+a.size+b'.size+c'.size-1⟩:=hn.symm
  simp only [X.ok,Bool.and_eq_true] at hy
  simp only [X.size] at hm hsz
  obtain rfl:on=22:=by have:(22:Int)=on:=hon;omega
  have hp:partsOf ((22:Nat):Int)=3:=rfl
  have hwa:=pw a b 0 (by omega) hat.ite.1 hy.1.1 hf.1 (by decide) (by decide)
  have hwb:=pw b' (b+a.size) 0 (by omega) hat.ite.2.1 hy.1.2 hf.2.1 (by decide) (by decide)
  have hwc:=pw c' (b+a.size+b'.size) 0 (by omega) hat.ite.2.2 hy.2 hf.2.2 (by decide) (by decide)
  rw [Int.natCast_add] at hwb
  rw [Int.natCast_add,Int.natCast_add] at hwc
  have hla:=join_W_len hy.1.1 hf.1 0
  have hlb:=join_W_len hy.1.2 hf.2.1 0
  have hlc:=join_W_len hy.2 hf.2.2 0
  have hj:joinW (X.ite a b' c').body=[105,102,32]++joinW (a.W 0)++[32,116,104,101,110,32]++joinW (b'.W 0)++[32,101,108,115,101,32]++joinW (c'.W 0)++[32,101,110,100,105,102]:=by
   rw [X.body,joinW_cons _ (by simp),joinW_app (W_ne a 0) (by simp),joinW_cons _ (by simp),joinW_app (W_ne b' 0) (by simp),joinW_cons _ (by simp),joinW_app (W_ne c' 0) (by simp)]
   simp [joinW,wIf,wThen,wElse,wEndif]
  generalize joinW (a.W 0)=ta at hwa hla hj
  generalize joinW (b'.W 0)=tb at hwb hlb hj
  generalize joinW (c'.W 0)=tc at hwc hlc hj
  have m1:=hmx (3+ta.length) (by omega)
  have m2:=hmx (ta.length+1+1+1+6) (by omega)
  have m3:=hmx ((ta++[32,116,104,101,110,32]).length+1+1+1+tb.length) (by simp only [List.length_append,List.length_cons,List.length_nil];omega)
  have m4:=hmx ((ta++[32,116,104,101,110,32]++tb).length+1+1+1+6) (by simp only [List.length_append,List.length_cons,List.length_nil];omega)
  have m5:=hmx ((ta++[32,116,104,101,110,32]++tb++[32,101,108,115,101,32]).length+1+1+1+tc.length) (by simp only [List.length_append,List.length_cons,List.length_nil];omega)
  have m6:=hmx ((ta++[32,116,104,101,110,32]++tb++[32,101,108,115,101,32]++tc).length+1+1+1+6) (by simp only [List.length_append,List.length_cons,List.length_nil];omega)
  refine AW.seq_k fun K hK=>AW.region (by kernel_rfl) ?_
  simp -implicitDefEqProofs only[go_sem,seval,↓reduceIte,hp]
  refine hK _ ?_
  clear hK K
  refine AW.condS (by simp -implicitDefEqProofs only[go_sem,seval,↓reduceIte];rfl) (fun h22=>?_) (fun h22=>?_)
  ·cases h22
  clear h22
  refine AW.seq_k fun K hK=>AW.region (by kernel_rfl) ?_
  simp -implicitDefEqProofs only[go_sem,seval,↓reduceIte,hp]
  refine hK _ ?_
  clear hK K
  refine AW.condS (by simp -implicitDefEqProofs only[go_sem,seval,↓reduceIte];rfl) (fun h22=>?_) (fun h22=>?_)
  ·cases h22
  clear h22
  refine AW.seq_k fun K hK=>AW.region (by kernel_rfl) ?_
  simp -implicitDefEqProofs only[go_sem,seval,↓reduceIte,hp]
  refine hK _ ?_
  clear hK K
  refine AW.condS (by simp -implicitDefEqProofs only[go_sem,seval,↓reduceIte];rfl) (fun h22=>?_) (fun h22=>?_)
  ·cases h22
  clear h22
  refine AW.regionT ⟨fun i=>if i=3 then .str ta else if i=9 then .str tb else .str tc,fun i=>if i=3 then .pure else if i=9 then .pure else if i=15 then .pure else .lend⟩ (by kernel_rfl) hG (by kernel_rfl) (by kernel_rfl) ?_
  simp -implicitDefEqProofs only[go_sem,seval,↓reduceIte,encXN_K,m1,m2,m3,m4,m5,m6]
  refine ⟨hwa,hwb,hwc,?_⟩
  exact hK1 _ () trivial (Weak.st (by rw [hj];simp -implicitDefEqProofs only[go_sem,seval,↓reduceIte];try rfl) (by simp -implicitDefEqProofs only[go_sem,seval,↓reduceIte]))
end Go.Hs
end

section
namespace Go.Hs
open Go.Proofs
set_option maxRecDepth 10000
theorem rRight_spec (G:Nat→V) (hG:GOk G) (c:Col) (s:Sl XN) (hs:s.l.length<1000000) (hnm:∀ n∈s.l,n.name.length<100000) :
  Spec Tryz.prog G 54 [encSl c 6 encXN s] hNone (fun v _=>v = .bool (rightR s.l)):=by
 refine Spec.of_code' 0 9 [.tmp 2] Tryz.func54 rfl rfl rfl rfl fun X=>?_
 have hw:IntKind.i64.wrap ((s.l.length:Int)-1)=(s.l.length:Int)-1:=w64 (by omega) (by omega)
 refine AW.seq_k fun K hK=>AW.region (by kernel_rfl) ?_
 simp -implicitDefEqProofs only[go_sem,seval,↓reduceIte]
 refine hK _ ?_
 clear hK K
 refine AW.seq_k fun K hK=>AW.region (by kernel_rfl) ?_
 simp -implicitDefEqProofs only[go_sem,seval,↓reduceIte,hw]
 refine CallA.pure hG (by kernel_rfl) ?_
 simp -implicitDefEqProofs only[go_sem,seval,↓reduceIte,recol_xns]
 refine (rBegin_spec G hG s hs hnm s.l.length c.ent ((s.l.length:Int)-1) (by omega) (by omega) (by omega)).mono ?_
 rintro _ _ rfl
 simp -implicitDefEqProofs only[go_sem,seval,↓reduceIte]
 refine hK _ ?_
 clear hK K
 refine AW.ret ?_
 simp -implicitDefEqProofs only[go_sem,seval,↓reduceIte]
 refine endK_some ?_
 rfl
theorem rDepthN_spec (G:Nat→V) (hG:GOk G) (c:Col) (s:Sl XN) (hs:s.l.length<1000000) (hnm:∀ n∈s.l,n.name.length<100000) :
  Spec Tryz.prog G 42 [encSl c 6 encXN s] hNone (fun v _=>v = .int .i64 (depthP s.l)):=by
 refine Spec.of_code' 0 11 [.tmp 2] Tryz.func42 rfl rfl rfl rfl fun X=>?_
 have hw:IntKind.i64.wrap ((s.l.length:Int)-1)=(s.l.length:Int)-1:=w64 (by omega) (by omega)
 refine AW.seq_k fun K hK=>AW.region (by kernel_rfl) ?_
 simp -implicitDefEqProofs only[go_sem,seval,↓reduceIte]
 refine hK _ ?_
 clear hK K
 refine AW.seq_k fun K1 hK1=>?_
 refine AW.seq_k fun K hK=>AW.region (by kernel_rfl) ?_
 simp -implicitDefEqProofs only[go_sem,seval,↓reduceIte]
 refine CallA.pure hG (by kernel_rfl) ?_
 simp -implicitDefEqProofs only[go_sem,seval,↓reduceIte,recol_xns]
 refine (rRight_spec G hG c.ent s hs hnm).mono ?_
 rintro _ _ rfl
 simp -implicitDefEqProofs only[go_sem,seval,↓reduceIte]
 refine hK _ ?_
 clear hK K
 cases hr:rightR s.l with
 | false =>
  have hd:depthP s.l=0:=by
   have:=right_depth s.l
   rw [hr] at this
   have h2:=of_decide_eq_false this.symm
   exact Classical.byContradiction h2
  refine AW.condS (by simp -implicitDefEqProofs only[go_sem,seval,↓reduceIte];rfl) (fun h6=>?_) (fun h6=>?_)
  ·refine AW.seq_k fun K hK=>AW.region (by kernel_rfl) ?_
   simp -implicitDefEqProofs only[go_sem,seval,↓reduceIte]
   refine hK _ ?_
   clear hK K
   refine AW.ret ?_
   simp -implicitDefEqProofs only[go_sem,seval,↓reduceIte]
   refine endK_some ?_
   rw [hd]
  ·cases h6
 | true =>
 refine AW.condS (by simp -implicitDefEqProofs only[go_sem,seval,↓reduceIte];rfl) (fun h6=>?_) (fun h6=>?_)
 ·cases h6
 refine AW.skip ?_
 simp -implicitDefEqProofs only[go_sem,seval,↓reduceIte]
 refine hK1 _ ?_
 obtain ⟨x,hx,hl⟩:=right_tree.1 hr
 have hat:At s.l x 0:=hl ▸ At.whole x
 have hdep:depthP s.l=x.depth:=by rw [hl,depth_row hx]
 have hlen:s.l.length=x.size:=by rw [hl,Go.Hs.X.row_len]
 have hsp:=rDepth_at G hG s hs x 0 hat
 rw [show ((0:Nat):Int)+x.size-1=(s.l.length:Int)-1 by omega] at hsp
 refine AW.seq_k fun K hK=>AW.region (by kernel_rfl) ?_
 simp -implicitDefEqProofs only[go_sem,seval,↓reduceIte,hw]
 refine CallA.pure hG (by kernel_rfl) ?_
 simp -implicitDefEqProofs only[go_sem,seval,↓reduceIte,recol_xns]
 refine (hsp c.ent).mono ?_
 rintro _ _ rfl
 simp -implicitDefEqProofs only[go_sem,seval,↓reduceIte]
 refine hK _ ?_
 clear hK K
 refine AW.ret ?_
 simp -implicitDefEqProofs only[go_sem,seval,↓reduceIte]
 refine endK_some ?_
 rw [hdep]
def checkP (l:List XN):Int:=if depthP l=0 then 2 else if depthP l > 64 then 3 else 0
theorem rCheck_spec (G:Nat→V) (hG:GOk G) (c:Col) (s:Sl XN) (hs:s.l.length<1000000) (hnm:∀ n∈s.l,n.name.length<100000) :
  Spec Tryz.prog G 40 [encSl c 6 encXN s] hNone (fun v _=>v = .int .i64 (checkP s.l)):=by
 refine Spec.of_code' 0 9 [.tmp 2] Tryz.func40 rfl rfl rfl rfl fun X=>?_
 have hC:checkP s.l=if depthP s.l=0 then 2 else if depthP s.l > 64 then 3 else 0:=rfl
 generalize checkP s.l=res at hC ⊢
 refine AW.seq_k fun K hK=>AW.region (by kernel_rfl) ?_
 simp -implicitDefEqProofs only[go_sem,seval,↓reduceIte]
 refine hK _ ?_
 clear hK K
 refine AW.seq_k fun K1 hK1=>?_
 refine AW.seq_k fun K hK=>AW.region (by kernel_rfl) ?_
 simp -implicitDefEqProofs only[go_sem,seval,↓reduceIte]
 refine CallA.pure hG (by kernel_rfl) ?_
 simp -implicitDefEqProofs only[go_sem,seval,↓reduceIte,recol_xns]
 refine (rRight_spec G hG c.ent s hs hnm).mono ?_
 rintro _ _ rfl
 simp -implicitDefEqProofs only[go_sem,seval,↓reduceIte]
 refine hK _ ?_
 clear hK K
 rw [right_depth]
 by_cases hd:depthP s.l=0
 ·rw [if_pos hd] at hC
  have e1:decide (depthP s.l≠0)=false:=by simpa using hd
  rw [e1]
  refine AW.condS (by simp -implicitDefEqProofs only[go_sem,seval,↓reduceIte];rfl) (fun h6=>?_) (fun h6=>?_)
  ·refine AW.seq_k fun K hK=>AW.region (by kernel_rfl) ?_
   simp -implicitDefEqProofs only[go_sem,seval,↓reduceIte]
   refine hK _ ?_
   clear hK K
   refine AW.ret ?_
   simp -implicitDefEqProofs only[go_sem,seval,↓reduceIte]
   refine endK_some ?_
   rw [hC]
  ·cases h6
 have e1:decide (depthP s.l≠0)=true:=by simpa using hd
 rw [if_neg hd] at hC
 rw [e1]
 refine AW.condS (by simp -implicitDefEqProofs only[go_sem,seval,↓reduceIte];rfl) (fun h6=>?_) (fun h6=>?_)
 ·cases h6
 refine AW.skip ?_
 simp -implicitDefEqProofs only[go_sem,seval,↓reduceIte]
 refine hK1 _ ?_
 refine AW.seq_k fun K2 hK2=>?_
 refine AW.seq_k fun K hK=>AW.region (by kernel_rfl) ?_
 simp -implicitDefEqProofs only[go_sem,seval,↓reduceIte]
 refine CallA.pure hG (by kernel_rfl) ?_
 simp -implicitDefEqProofs only[go_sem,seval,↓reduceIte,recol_xns]
 refine (rDepthN_spec G hG c.ent s hs hnm).mono ?_
 rintro _ _ rfl
 simp -implicitDefEqProofs only[go_sem,seval,↓reduceIte]
 refine hK _ ?_
 clear hK K
 refine AW.condS (by simp -implicitDefEqProofs only[go_sem,seval,↓reduceIte];rfl) (fun h7=>?_) (fun h7=>?_)
 ·have h7:depthP s.l > 64:=by simpa using h7
  rw [if_pos h7] at hC
  refine AW.seq_k fun K hK=>AW.region (by kernel_rfl) ?_
  simp -implicitDefEqProofs only[go_sem,seval,↓reduceIte]
  refine hK _ ?_
  clear hK K
  refine AW.ret ?_
  simp -implicitDefEqProofs only[go_sem,seval,↓reduceIte]
  refine endK_some ?_
  rw [hC]
 ·have h7:¬ depthP s.l > 64:=by simpa using h7
  rw [if_neg h7] at hC
  refine AW.skip ?_
  simp -implicitDefEqProofs only[go_sem,seval,↓reduceIte]
  refine hK2 _ ?_
  refine AW.seq_k fun K hK=>AW.region (by kernel_rfl) ?_
  simp -implicitDefEqProofs only[go_sem,seval,↓reduceIte]
  refine hK _ ?_
  clear hK K
  refine AW.ret ?_
  simp -implicitDefEqProofs only[go_sem,seval,↓reduceIte]
  refine endK_some ?_
  rw [hC]
theorem xCheck_spec (G:Nat→V) (hE:GExp G) (c:Col) (s:Sl XN) (hs:s.l.length<1000000) (hnm:∀ n∈s.l,n.name.length<100000) :
  Spec Tryz.prog G 39 [.agg [encSl c 6 encXN s]] hNone (fun v _=>v = .int .i64 (checkP s.l)):=by
 have hG:=hE.ok
 refine Spec.of_code' 0 12 [.tmp 2] Tryz.func39 rfl rfl rfl rfl fun X=>?_
 have hC:checkP s.l=if depthP s.l=0 then 2 else if depthP s.l > 64 then 3 else 0:=rfl
 generalize checkP s.l=res at hC ⊢
 refine AW.seq_k fun K hK=>AW.region (by kernel_rfl) ?_
 simp -implicitDefEqProofs only[go_sem,seval,↓reduceIte]
 intro g1
 refine hK _ ?_
 clear hK K
 refine AW.seq_k fun K1 hK1=>?_
 refine AW.seq_k fun K hK=>AW.region (by kernel_rfl) ?_
 simp -implicitDefEqProofs only[go_sem,seval,↓reduceIte]
 refine CallA.pure hG (by kernel_rfl) ?_
 simp -implicitDefEqProofs only[go_sem,seval,↓reduceIte,recol_xns]
 refine (xDepth_spec G hE c.ent s hs hnm).mono ?_
 rintro _ _ rfl
 simp -implicitDefEqProofs only[go_sem,seval,↓reduceIte]
 refine hK _ ?_
 clear hK K
 refine AW.block ?_
 refine AW.seq_k fun K hK=>AW.region (by kernel_rfl) ?_
 simp -implicitDefEqProofs only[go_sem,seval,↓reduceIte]
 refine hK _ ?_
 clear hK K
 refine AW.condS (by simp -implicitDefEqProofs only[go_sem,seval,↓reduceIte];rfl) (fun h6=>?_) (fun h6=>?_)
 ·have h6:depthP s.l=0:=by simpa using h6
  rw [if_pos h6] at hC
  refine AW.seq_k fun K hK=>AW.region (by kernel_rfl) ?_
  simp -implicitDefEqProofs only[go_sem,seval,↓reduceIte]
  refine hK _ ?_
  clear hK K
  refine AW.ret ?_
  simp -implicitDefEqProofs only[go_sem,seval,↓reduceIte]
  refine endK_some ?_
  rw [hC]
 have h6:¬ depthP s.l=0:=by simpa using h6
 rw [if_neg h6] at hC
 refine AW.seq_k fun K hK=>AW.region (by kernel_rfl) ?_
 simp -implicitDefEqProofs only[go_sem,seval,↓reduceIte]
 refine hK _ ?_
 clear hK K
 refine AW.condS (by simp -implicitDefEqProofs only[go_sem,seval,↓reduceIte];rfl) (fun h7=>?_) (fun h7=>?_)
 ·have h7:depthP s.l > 64:=by simpa using h7
  rw [if_pos h7] at hC
  refine AW.seq_k fun K hK=>AW.region (by kernel_rfl) ?_
  simp -implicitDefEqProofs only[go_sem,seval,↓reduceIte]
  refine hK _ ?_
  clear hK K
  refine AW.ret ?_
  simp -implicitDefEqProofs only[go_sem,seval,↓reduceIte]
  refine endK_some ?_
  rw [hC]
 ·have h7:¬ depthP s.l > 64:=by simpa using h7
  rw [if_neg h7] at hC
  refine AW.skip ?_
  simp -implicitDefEqProofs only[go_sem,seval,↓reduceIte]
  refine hK1 _ ?_
  refine AW.seq_k fun K hK=>AW.region (by kernel_rfl) ?_
  simp -implicitDefEqProofs only[go_sem,seval,↓reduceIte]
  refine hK _ ?_
  clear hK K
  refine AW.ret ?_
  simp -implicitDefEqProofs only[go_sem,seval,↓reduceIte]
  refine endK_some ?_
  rw [hC]
end Go.Hs
end
