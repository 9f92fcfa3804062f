/- Part 45 of the proof of a statement of seat YtohdjmgdaaipaaaGreatDoor: HsHActD. -/
import Derived.Test.YtohdjmgdaaipaaaGreatDoorPart43
import Derived.Test.YtohdjmgdaaipaaaGreatDoorPart44
set_option linter.unusedSimpArgs false
set_option linter.unusedVariables false
section
namespace Go.Hs
open Go.Proofs
set_option maxRecDepth 10000
theorem aAssign_spec (G:Nat→V) (hE:GExp G) (sl:Sl Tk) (hT:TkOk sl.l) (g:Nat) (i:Nat) (hi:i≤sl.l.length) :
  CuS G 88 [] sl g ⟨i,0⟩ (.tuple [encAS .new (stmtQ sl.l 1 [58,61] [[59]] i).1,.bool ((stmtQ sl.l 1 [58,61] [[59]] i).2.2==0)]) ⟨(stmtQ sl.l 1 [58,61] [[59]] i).2.1.toNat,(stmtQ sl.l 1 [58,61] [[59]] i).2.2⟩:=by
 have hG:=hE.ok;have hTl:=hT.len;intro st hst
 have hP:stmtQ sl.l 1 [58,61] [[59]] i=if nameP sl.l i=false then (⟨1,[],[]⟩,(i:Int),110)
  else if txtP sl.l (i+1)≠[58,61] then (⟨1,txtP sl.l i,[]⟩,((i+1:Nat):Int),110)
  else if (1:Int)=2∧txtP sl.l (i+2)=[41] then shutS sl.l ⟨1,txtP sl.l i,[]⟩ [[59]] (i+2)
  else exprS sl.l 1 (txtP sl.l i) [[59]] (i+2):=rfl
 generalize stmtQ sl.l 1 [58,61] [[59]] i=res at hP ⊢;refine Spec.of_code' 1000 39 [.cell 2 55,.tmp 3] Tryz.func88 rfl rfl rfl rfl fun X=>?_;simp only [sets,cuO_K];refine AW.seq_k fun K hK=>AW.region (by kernel_rfl) ?_;simp -implicitDefEqProofs only[go_sem,seval,↓reduceIte];intro g2;refine hK _ ?_;clear hK K;refine AW.seq_k fun K hK=>AW.region (by kernel_rfl) ?_;simp -implicitDefEqProofs only[go_sem,seval,↓reduceIte];refine hK _ ?_;clear hK K;refine AW.seq_k fun K1 hK1=>?_;refine AW.seq_k fun K hK=>AW.region (by kernel_rfl) ?_;simp -implicitDefEqProofs only[go_sem,seval,↓reduceIte];refine CuS.call hG (cName_spec G hG sl (by omega) g ⟨i,0⟩ hi) hst (by kernel_rfl) rfl rfl (by first | rfl | (simp -implicitDefEqProofs only[go_sem,seval,↓reduceIte];try rfl)) ?_
 cases hn:nameP sl.l i with
 | false =>
  rw [if_pos hn] at hP
  have q0:(false=true)=False:=by simp
  simp -implicitDefEqProofs only[go_sem,seval,↓reduceIte,sets,q0,if_false];refine hK _ ?_;clear hK K;refine AW.seq_k fun K hK=>AW.region (by kernel_rfl) ?_;simp -implicitDefEqProofs only[go_sem,seval,↓reduceIte];refine hK _ ?_;clear hK K;refine AW.condS (by simp -implicitDefEqProofs only[go_sem,seval,↓reduceIte];rfl) (fun h20=>?_) (fun h20=>?_)
  ·cases h20
  refine AW.skip ?_;simp -implicitDefEqProofs only[go_sem,seval,↓reduceIte];refine hK1 _ ?_;refine AW.seq_k fun K hK=>AW.region (by kernel_rfl) ?_;simp -implicitDefEqProofs only[go_sem,seval,↓reduceIte];refine hK _ ?_;clear hK K;refine AW.ret ?_;simp -implicitDefEqProofs only[go_sem,seval,↓reduceIte];refine endK_some ?_;rw [hP];exact ⟨rfl,by simp -implicitDefEqProofs only[go_sem,seval,↓reduceIte];try rfl⟩
 | true =>
 rw [if_neg (by rw [hn];decide)] at hP
 have hil:i<sl.l.length:=by
  refine Classical.byContradiction fun h=>?_;rw [nameP_none (by omega)] at hn;cases hn
 simp -implicitDefEqProofs only[go_sem,seval,↓reduceIte,sets,if_true];refine hK _ ?_;clear hK K;refine AW.seq_k fun K hK=>AW.region (by kernel_rfl) ?_;simp -implicitDefEqProofs only[go_sem,seval,↓reduceIte];intro g18;refine CallA.frzL (fun o=>o==1018) [.ptr 21 g 0,encSl .new 1 V.str (.mk false [[58,61]])] [(21,cuO sl g st ⟨i+1,0⟩),(1002,.cells .new g2 0 [.int .u8 1,.str (txtP sl.l i),.nils])] ⟨Fz.same _,Fz.sl (f:=V.str) (l:=[[58,61]]) (m:=1) (g:=g18) (fz:=0) (c := .new) rfl (by simp -implicitDefEqProofs only[go_sem,seval,↓reduceIte];try rfl) (fun _=>rfl),trivial⟩ (by simp only [allFzO_cons,allFzO_nil,and_true];exact ⟨FzO.keep rfl (by simp -implicitDefEqProofs only[go_sem,seval,↓reduceIte];try rfl),FzO.keep rfl (by simp -implicitDefEqProofs only[go_sem,seval,↓reduceIte];try rfl)⟩) ?_;refine CuS.call hG (cTake_spec G hG sl (by omega) g ⟨i+1,0⟩ hil .old [[58,61]] (by decide) (by decide) false) hst (by kernel_rfl) (by first | rfl | (simp -implicitDefEqProofs only[go_sem,seval,↓reduceIte,List.map_cons,List.map_nil];try rfl)) rfl (by first | rfl | (simp -implicitDefEqProofs only[go_sem,seval,↓reduceIte];try rfl)) ?_
 have htk:takeP sl.l [[58,61]] (i+1)=if txtP sl.l (i+1)=[58,61] then (true,i+2) else (false,i+1):=rfl
 by_cases hw1:txtP sl.l (i+1)=[58,61]
 rotate_left
 ·rw [if_pos hw1] at hP
  rw [htk,if_neg hw1]
  have q0:(false=true)=False:=by simp
  simp -implicitDefEqProofs only[go_sem,seval,↓reduceIte,sets,q0,if_false];refine hK _ ?_;clear hK K;refine AW.condS (by simp -implicitDefEqProofs only[go_sem,seval,↓reduceIte];rfl) (fun h20=>?_) (fun h20=>?_)
  ·cases h20
  refine AW.skip ?_;simp -implicitDefEqProofs only[go_sem,seval,↓reduceIte];refine hK1 _ ?_;refine AW.seq_k fun K hK=>AW.region (by kernel_rfl) ?_;simp -implicitDefEqProofs only[go_sem,seval,↓reduceIte];refine hK _ ?_;clear hK K;refine AW.ret ?_;simp -implicitDefEqProofs only[go_sem,seval,↓reduceIte];refine endK_some ?_;rw [hP];exact ⟨rfl,by simp -implicitDefEqProofs only[go_sem,seval,↓reduceIte];try rfl⟩
 rw [if_neg (by simpa using hw1),if_neg (fun h=>absurd h.1 (by decide))] at hP;rw [htk,if_pos hw1];have hi2:i+2≤sl.l.length:=txtP_lt (by rw [hw1];decide);simp -implicitDefEqProofs only[go_sem,seval,↓reduceIte,sets,if_true];refine hK _ ?_;clear hK K;refine AW.condS (by simp -implicitDefEqProofs only[go_sem,seval,↓reduceIte];rfl) (fun h20=>?_) (fun h20=>?_);rotate_left
 ·cases h20
 unfold exprS at hP;have hbad:=fromP_bad (l:=sl.l.drop (i+2));have hbd:=fromP_bnd (l:=sl.l.drop (i+2));have hex:=cExpr_spec G hE sl hT g ⟨i+2,0⟩ hi2;simp only at hex;rw [List.length_drop] at hbd;generalize fromP (sl.l.drop (i+2))=p at hP hbad hbd hex;obtain ⟨xs,n,e⟩:=p;simp only at hP hbad hbd hex;refine AW.seq_k fun K hK=>AW.region (by kernel_rfl) ?_;simp -implicitDefEqProofs only[go_sem,seval,↓reduceIte];refine CuS.call hG hex hst (by kernel_rfl) rfl (by first | rfl | (simp -implicitDefEqProofs only[go_sem,seval,↓reduceIte,encXs,recol_xns];try rfl)) (by first | rfl | (simp -implicitDefEqProofs only[go_sem,seval,↓reduceIte];try rfl)) ?_;simp -implicitDefEqProofs only[go_sem,seval,↓reduceIte,sets,encXs];refine hK _ ?_;clear hK K;have hx0:e≠0→xs=[]:=hbad
 by_cases he:e=0
 rotate_left
 ·rw [if_pos he] at hP
  have q1:(e==0)=false:=by simpa using he
  obtain rfl:=hx0 he;rw [q1];refine AW.seq_k fun K hK=>AW.regionK [(55,.ptr 1002 g2 0,.agg [.int .u8 1,.str (txtP sl.l i),.nils])] ⟨fun j=>if j=0 then .agg [.int .u8 1,.str (txtP sl.l i),.nils] else .top,fun j=>if j=0 then .keep else if j=7 then .any else .pure⟩ (by kernel_rfl) hG (by kernel_rfl) (by kernel_rfl) ?_;have hgn:encSl Col.new 6 encXN (grownS []) = .nils:=rfl;simp -implicitDefEqProofs only[go_sem,seval,↓reduceIte,hgn];refine hK _ ?_;clear hK K;refine AW.ret ?_;simp -implicitDefEqProofs only[go_sem,seval,↓reduceIte];refine endK_some ?_;rw [hP]
  have hti:(((i+2:Nat):Int)+n).toNat=i+2+n.toNat:=by omega
  exact ⟨by rw [← q1];rfl,by simp only [hti];simp -implicitDefEqProofs only[go_sem,seval,↓reduceIte];try rfl⟩
 refine AW.seq_k fun K hK=>AW.regionK [(55,.ptr 1002 g2 0,encAS .new ⟨1,txtP sl.l i,xs⟩)] ⟨fun j=>if j=0 then encAS .new ⟨1,txtP sl.l i,xs⟩ else .top,fun j=>if j=0 then .keep else if j=7 then .any else .pure⟩ (by kernel_rfl) hG (by kernel_rfl) (by kernel_rfl) ?_
 have q1:(e==0)=true:=by simpa using he
 rw [if_neg (by simpa using he)] at hP;simp -implicitDefEqProofs only[go_sem,seval,↓reduceIte,q1,encAS_K];intro g35
 have hi3:i+2+n.toNat≤sl.l.length:=by omega
 refine CallA.frzL (fun o=>o==1035) [.ptr 21 g 0,encSl .new 1 V.str (.mk false [[59]])] [(21,cuO sl g st ⟨i+2+n.toNat,e⟩),(1002,.cells .new g2 0 [.int .u8 1,.str (txtP sl.l i),encSl .new 6 encXN (grownS xs)])] ⟨Fz.same _,Fz.sl (f:=V.str) (l:=[[59]]) (m:=1) (g:=g35) (fz:=0) (c := .new) rfl (by simp -implicitDefEqProofs only[go_sem,seval,↓reduceIte];try rfl) (fun _=>rfl),trivial⟩ (by simp only [allFzO_cons,allFzO_nil,and_true];exact ⟨FzO.keep rfl (by simp -implicitDefEqProofs only[go_sem,seval,↓reduceIte];try rfl),FzO.keep rfl (by simp -implicitDefEqProofs only[go_sem,seval,↓reduceIte];try rfl)⟩) ?_;refine CuS.call hG (cTake_spec G hG sl (by omega) g ⟨i+2+n.toNat,e⟩ hi3 .old [[59]] (by decide) (by decide) false) hst (by kernel_rfl) (by first | rfl | (simp -implicitDefEqProofs only[go_sem,seval,↓reduceIte,List.map_cons,List.map_nil];try rfl)) rfl (by first | rfl | (simp -implicitDefEqProofs only[go_sem,seval,↓reduceIte];try rfl)) ?_;simp -implicitDefEqProofs only[go_sem,seval,↓reduceIte,sets];refine hK _ ?_;clear hK K;refine AW.ret ?_;simp -implicitDefEqProofs only[go_sem,seval,↓reduceIte];refine endK_some ?_;rw [hP];unfold shutS;generalize takeP sl.l [[59]] (i+2+n.toNat)=tk;obtain ⟨b,j⟩:=tk;cases b
 ·exact ⟨rfl,by simp -implicitDefEqProofs only[go_sem,seval,↓reduceIte];try rfl⟩
 ·exact ⟨rfl,by rw [he];simp -implicitDefEqProofs only[go_sem,seval,↓reduceIte];try rfl⟩
theorem aEmit_spec (G:Nat→V) (hE:GExp G) (sl:Sl Tk) (hT:TkOk sl.l) (g:Nat) (i:Nat) (hw:txtP sl.l i=emitW) :
  CuS G 90 [] sl g ⟨i,0⟩ (.tuple [encAS .new (stmtQ sl.l 2 [40] [[41],[59]] (i+1)).1,.bool ((stmtQ sl.l 2 [40] [[41],[59]] (i+1)).2.2==0)]) ⟨(stmtQ sl.l 2 [40] [[41],[59]] (i+1)).2.1.toNat,(stmtQ sl.l 2 [40] [[41],[59]] (i+1)).2.2⟩:=by
 have hG:=hE.ok;have hTl:=hT.len;have hil:i<sl.l.length:=txtP_lt (by rw [hw];decide);intro st hst
 have hP:stmtQ sl.l 2 [40] [[41],[59]] (i+1)=if nameP sl.l (i+1)=false then (⟨2,[],[]⟩,((i+1:Nat):Int),110)
  else if txtP sl.l (i+2)≠[40] then (⟨2,txtP sl.l (i+1),[]⟩,((i+2:Nat):Int),110)
  else if (2:Int)=2∧txtP sl.l (i+3)=[41] then shutS sl.l ⟨2,txtP sl.l (i+1),[]⟩ [[41],[59]] (i+3)
  else exprS sl.l 2 (txtP sl.l (i+1)) [[41],[59]] (i+3):=rfl
 generalize stmtQ sl.l 2 [40] [[41],[59]] (i+1)=res at hP ⊢;refine Spec.of_code' 1000 53 [.cell 2 55,.tmp 3] Tryz.func90 rfl rfl rfl rfl fun X=>?_;simp only [sets,cuO_K];refine AW.seq_k fun K hK=>AW.region (by kernel_rfl) ?_;simp -implicitDefEqProofs only[go_sem,seval,↓reduceIte];intro g2;refine hK _ ?_;clear hK K;refine AW.seq_k fun K hK=>AW.region (by kernel_rfl) ?_;simp -implicitDefEqProofs only[go_sem,seval,↓reduceIte];refine hK _ ?_;clear hK K;refine AW.seq_k fun K1 hK1=>?_;refine AW.seq_k fun K hK=>AW.region (by kernel_rfl) ?_;simp -implicitDefEqProofs only[go_sem,seval,↓reduceIte];intro g8;refine CallA.frzL (fun o=>o==1008) [.ptr 21 g 0,encSl .new 1 V.str (.mk false [emitW])] [(21,cuO sl g st ⟨i,0⟩),(1002,.cells .new g2 0 [.int .u8 2,.str [],.nils])] ⟨Fz.same _,Fz.sl (f:=V.str) (l:=[emitW]) (m:=1) (g:=g8) (fz:=0) (c := .new) rfl (by simp -implicitDefEqProofs only[go_sem,seval,↓reduceIte];try rfl) (fun _=>rfl),trivial⟩ (by simp only [allFzO_cons,allFzO_nil,and_true];exact ⟨FzO.keep rfl (by simp -implicitDefEqProofs only[go_sem,seval,↓reduceIte];try rfl),FzO.keep rfl (by simp -implicitDefEqProofs only[go_sem,seval,↓reduceIte];try rfl)⟩) ?_;refine CuS.call hG (cTake_spec G hG sl (by omega) g ⟨i,0⟩ (by show i≤_;omega) .old [emitW] (by decide) (by decide) false) hst (by kernel_rfl) (by first | rfl | (simp -implicitDefEqProofs only[go_sem,seval,↓reduceIte,List.map_cons,List.map_nil];try rfl)) rfl (by first | rfl | (simp -implicitDefEqProofs only[go_sem,seval,↓reduceIte];try rfl)) ?_
 have htk:takeP sl.l [emitW] i=(true,i+1):=by rw [takeP,if_pos hw];rfl
 rw [htk];simp -implicitDefEqProofs only[go_sem,seval,↓reduceIte,sets,if_true];refine hK _ ?_;clear hK K;refine AW.condS (by simp -implicitDefEqProofs only[go_sem,seval,↓reduceIte];rfl) (fun h10=>?_) (fun h10=>?_)
 ·cases h10
 refine AW.skip ?_;simp -implicitDefEqProofs only[go_sem,seval,↓reduceIte];refine hK1 _ ?_;refine AW.seq_k fun K2 hK2=>?_;refine AW.seq_k fun K hK=>AW.region (by kernel_rfl) ?_;simp -implicitDefEqProofs only[go_sem,seval,↓reduceIte];refine CuS.call hG (cName_spec G hG sl (by omega) g ⟨i+1,0⟩ hil) hst (by kernel_rfl) rfl rfl (by first | rfl | (simp -implicitDefEqProofs only[go_sem,seval,↓reduceIte];try rfl)) ?_
 cases hn:nameP sl.l (i+1) with
 | false =>
  rw [if_pos hn] at hP
  have q0:(false=true)=False:=by simp
  simp -implicitDefEqProofs only[go_sem,seval,↓reduceIte,sets,q0,if_false];refine hK _ ?_;clear hK K;refine AW.seq_k fun K hK=>AW.region (by kernel_rfl) ?_;simp -implicitDefEqProofs only[go_sem,seval,↓reduceIte];refine hK _ ?_;clear hK K;refine AW.condS (by simp -implicitDefEqProofs only[go_sem,seval,↓reduceIte];rfl) (fun h29=>?_) (fun h29=>?_);rotate_left
  ·cases h29
  refine AW.seq_k fun K hK=>AW.region (by kernel_rfl) ?_;simp -implicitDefEqProofs only[go_sem,seval,↓reduceIte];refine hK _ ?_;clear hK K;refine AW.ret ?_;simp -implicitDefEqProofs only[go_sem,seval,↓reduceIte];refine endK_some ?_;rw [hP];exact ⟨rfl,by simp -implicitDefEqProofs only[go_sem,seval,↓reduceIte];try rfl⟩
 | true =>
 rw [if_neg (by rw [hn];decide)] at hP
 have hil1:i+1<sl.l.length:=by
  refine Classical.byContradiction fun h=>?_;rw [nameP_none (by omega)] at hn;cases hn
 simp -implicitDefEqProofs only[go_sem,seval,↓reduceIte,sets,if_true];refine hK _ ?_;clear hK K;refine AW.seq_k fun K hK=>AW.region (by kernel_rfl) ?_;simp -implicitDefEqProofs only[go_sem,seval,↓reduceIte];intro g26;refine CallA.frzL (fun o=>o==1026) [.ptr 21 g 0,encSl .new 1 V.str (.mk false [[40]])] [(21,cuO sl g st ⟨i+2,0⟩),(1002,.cells .new g2 0 [.int .u8 2,.str (txtP sl.l (i+1)),.nils])] ⟨Fz.same _,Fz.sl (f:=V.str) (l:=[[40]]) (m:=1) (g:=g26) (fz:=0) (c := .new) rfl (by simp -implicitDefEqProofs only[go_sem,seval,↓reduceIte];try rfl) (fun _=>rfl),trivial⟩ (by simp only [allFzO_cons,allFzO_nil,and_true];exact ⟨FzO.keep rfl (by simp -implicitDefEqProofs only[go_sem,seval,↓reduceIte];try rfl),FzO.keep rfl (by simp -implicitDefEqProofs only[go_sem,seval,↓reduceIte];try rfl)⟩) ?_;refine CuS.call hG (cTake_spec G hG sl (by omega) g ⟨i+2,0⟩ hil1 .old [[40]] (by decide) (by decide) false) hst (by kernel_rfl) (by first | rfl | (simp -implicitDefEqProofs only[go_sem,seval,↓reduceIte,List.map_cons,List.map_nil];try rfl)) rfl (by first | rfl | (simp -implicitDefEqProofs only[go_sem,seval,↓reduceIte];try rfl)) ?_
 have htk2:takeP sl.l [[40]] (i+2)=if txtP sl.l (i+2)=[40] then (true,i+3) else (false,i+2):=rfl
 by_cases hw1:txtP sl.l (i+2)=[40]
 rotate_left
 ·rw [if_pos hw1] at hP
  rw [htk2,if_neg hw1]
  have q0:(false=true)=False:=by simp
  simp -implicitDefEqProofs only[go_sem,seval,↓reduceIte,sets,q0,if_false];refine hK _ ?_;clear hK K;refine AW.condS (by simp -implicitDefEqProofs only[go_sem,seval,↓reduceIte];rfl) (fun h29=>?_) (fun h29=>?_);rotate_left
  ·cases h29
  refine AW.seq_k fun K hK=>AW.region (by kernel_rfl) ?_;simp -implicitDefEqProofs only[go_sem,seval,↓reduceIte];refine hK _ ?_;clear hK K;refine AW.ret ?_;simp -implicitDefEqProofs only[go_sem,seval,↓reduceIte];refine endK_some ?_;rw [hP];exact ⟨rfl,by simp -implicitDefEqProofs only[go_sem,seval,↓reduceIte];try rfl⟩
 rw [if_neg (by simpa using hw1)] at hP;rw [htk2,if_pos hw1];have hi3:i+3≤sl.l.length:=txtP_lt (by rw [hw1];decide);simp -implicitDefEqProofs only[go_sem,seval,↓reduceIte,sets,if_true];refine hK _ ?_;clear hK K;refine AW.condS (by simp -implicitDefEqProofs only[go_sem,seval,↓reduceIte];rfl) (fun h29=>?_) (fun h29=>?_)
 ·cases h29
 refine AW.skip ?_;simp -implicitDefEqProofs only[go_sem,seval,↓reduceIte];refine hK2 _ ?_;refine AW.seq_k fun K3 hK3=>?_;refine AW.seq_k fun K hK=>AW.region (by kernel_rfl) ?_;simp -implicitDefEqProofs only[go_sem,seval,↓reduceIte];refine CuS.call hG (cComes_spec G hG sl g ⟨i+3,0⟩ [41]) hst (by kernel_rfl) rfl rfl (by first | rfl | (simp -implicitDefEqProofs only[go_sem,seval,↓reduceIte];try rfl)) ?_;simp -implicitDefEqProofs only[go_sem,seval,↓reduceIte,sets];refine hK _ ?_;clear hK K
 have hcond:(decide (i+3<sl.l.length) && txtP sl.l (i+3)==[41])=(txtP sl.l (i+3)==[41]):=by
  by_cases h:i+3<sl.l.length
  ·rw [decide_eq_true h,Bool.true_and]
  ·rw [decide_eq_false h,Bool.false_and,txtP_none (by omega)];rfl
 rw [hcond]
 by_cases hw3:txtP sl.l (i+3)=[41]
 ·have q2:(txtP sl.l (i+3)==[41])=true:=by simpa using hw3
  rw [q2];rw [if_pos ⟨rfl,hw3⟩] at hP;refine AW.condS (by simp -implicitDefEqProofs only[go_sem,seval,↓reduceIte];rfl) (fun h35=>?_) (fun h35=>?_)
  ·cases h35
  refine AW.skip ?_;simp -implicitDefEqProofs only[go_sem,seval,↓reduceIte];refine hK3 _ ?_;refine AW.seq_k fun K hK=>AW.regionK [(55,.ptr 1002 g2 0,.agg [.int .u8 2,.str (txtP sl.l (i+1)),.nils])] ⟨fun j=>if j=0 then .agg [.int .u8 2,.str (txtP sl.l (i+1)),.nils] else .top,fun j=>if j=0 then .keep else if j=5 then .any else .pure⟩ (by kernel_rfl) hG (by kernel_rfl) (by kernel_rfl) ?_;simp -implicitDefEqProofs only[go_sem,seval,↓reduceIte];intro g51;refine CallA.frzL (fun o=>o==1051) [.ptr 21 g 0,encSl .new 1 V.str (.mk false [[41],[59]])] [(21,cuO sl g st ⟨i+3,0⟩),(1002,.cells .new g2 0 [.int .u8 2,.str (txtP sl.l (i+1)),.nils])] ⟨Fz.same _,Fz.sl (f:=V.str) (l:=[[41],[59]]) (m:=1) (g:=g51) (fz:=0) (c := .new) rfl (by simp -implicitDefEqProofs only[go_sem,seval,↓reduceIte];try rfl) (fun _=>rfl),trivial⟩ (by simp only [allFzO_cons,allFzO_nil,and_true];exact ⟨FzO.keep rfl (by simp -implicitDefEqProofs only[go_sem,seval,↓reduceIte];try rfl),FzO.keep rfl (by simp -implicitDefEqProofs only[go_sem,seval,↓reduceIte];try rfl)⟩) ?_;refine CuS.call hG (cTake_spec G hG sl (by omega) g ⟨i+3,0⟩ hi3 .old [[41],[59]] (by decide) (by decide) false) hst (by kernel_rfl) (by first | rfl | (simp -implicitDefEqProofs only[go_sem,seval,↓reduceIte,List.map_cons,List.map_nil];try rfl)) rfl (by first | rfl | (simp -implicitDefEqProofs only[go_sem,seval,↓reduceIte];try rfl)) ?_;simp -implicitDefEqProofs only[go_sem,seval,↓reduceIte,sets];refine hK _ ?_;clear hK K;refine AW.ret ?_;simp -implicitDefEqProofs only[go_sem,seval,↓reduceIte]
  refine endK_some ?_;rw [hP];unfold shutS;generalize takeP sl.l [[41],[59]] (i+3)=tk;obtain ⟨b,j⟩:=tk;cases b
  ·exact ⟨rfl,by simp -implicitDefEqProofs only[go_sem,seval,↓reduceIte];try rfl⟩
  ·exact ⟨rfl,by simp -implicitDefEqProofs only[go_sem,seval,↓reduceIte];try rfl⟩
 have q2:(txtP sl.l (i+3)==[41])=false:=by simpa using hw3
 rw [q2];rw [if_neg (fun h=>hw3 h.2)] at hP;refine AW.condS (by simp -implicitDefEqProofs only[go_sem,seval,↓reduceIte];rfl) (fun h35=>?_) (fun h35=>?_);rotate_left
 ·cases h35
 unfold exprS at hP;have hbad:=fromP_bad (l:=sl.l.drop (i+3));have hbd:=fromP_bnd (l:=sl.l.drop (i+3));have hex:=cExpr_spec G hE sl hT g ⟨i+3,0⟩ hi3;simp only at hex;rw [List.length_drop] at hbd;generalize fromP (sl.l.drop (i+3))=p at hP hbad hbd hex;obtain ⟨xs,n,e⟩:=p;simp only at hP hbad hbd hex;refine AW.seq_k fun K hK=>AW.region (by kernel_rfl) ?_;simp -implicitDefEqProofs only[go_sem,seval,↓reduceIte];refine CuS.call hG hex hst (by kernel_rfl) rfl (by first | rfl | (simp -implicitDefEqProofs only[go_sem,seval,↓reduceIte,encXs,recol_xns];try rfl)) (by first | rfl | (simp -implicitDefEqProofs only[go_sem,seval,↓reduceIte];try rfl)) ?_;simp -implicitDefEqProofs only[go_sem,seval,↓reduceIte,sets,encXs];refine hK _ ?_;clear hK K;have hx0:e≠0→xs=[]:=hbad
 by_cases he:e=0
 rotate_left
 ·rw [if_pos he] at hP
  have q1:(e==0)=false:=by simpa using he
  obtain rfl:=hx0 he;rw [q1];refine AW.seq_k fun K hK=>AW.region (by kernel_rfl) ?_;simp -implicitDefEqProofs only[go_sem,seval,↓reduceIte];refine hK _ ?_;clear hK K;refine AW.condS (by simp -implicitDefEqProofs only[go_sem,seval,↓reduceIte];rfl) (fun h45=>?_) (fun h45=>?_);rotate_left
  ·cases h45
  have hgn:encSl Col.new 6 encXN (grownS []) = .nils:=rfl;refine AW.seq_k fun K hK=>AW.region (by kernel_rfl) ?_;simp -implicitDefEqProofs only[go_sem,seval,↓reduceIte,hgn];refine hK _ ?_;clear hK K;refine AW.ret ?_;simp -implicitDefEqProofs only[go_sem,seval,↓reduceIte];refine endK_some ?_;rw [hP]
  have hti:(((i+3:Nat):Int)+n).toNat=i+3+n.toNat:=by omega
  exact ⟨by rw [← q1];rfl,by simp only [hti];simp -implicitDefEqProofs only[go_sem,seval,↓reduceIte];try rfl⟩
 have q1:(e==0)=true:=by simpa using he
 rw [if_neg (by simpa using he)] at hP;rw [q1];refine AW.seq_k fun K hK=>AW.region (by kernel_rfl) ?_;simp -implicitDefEqProofs only[go_sem,seval,↓reduceIte];refine hK _ ?_;clear hK K;refine AW.condS (by simp -implicitDefEqProofs only[go_sem,seval,↓reduceIte];rfl) (fun h45=>?_) (fun h45=>?_)
 ·cases h45
 refine AW.skip ?_;simp -implicitDefEqProofs only[go_sem,seval,↓reduceIte];refine hK3 _ ?_;refine AW.seq_k fun K hK=>AW.regionK [(55,.ptr 1002 g2 0,encAS .new ⟨2,txtP sl.l (i+1),xs⟩)] ⟨fun j=>if j=0 then encAS .new ⟨2,txtP sl.l (i+1),xs⟩ else .top,fun j=>if j=0 then .keep else if j=5 then .any else .pure⟩ (by kernel_rfl) hG (by kernel_rfl) (by kernel_rfl) ?_;simp -implicitDefEqProofs only[go_sem,seval,↓reduceIte,encAS_K];intro g51
 have hi4:i+3+n.toNat≤sl.l.length:=by omega
 refine CallA.frzL (fun o=>o==1051) [.ptr 21 g 0,encSl .new 1 V.str (.mk false [[41],[59]])] [(21,cuO sl g st ⟨i+3+n.toNat,e⟩),(1002,.cells .new g2 0 [.int .u8 2,.str (txtP sl.l (i+1)),encSl .new 6 encXN (grownS xs)])] ⟨Fz.same _,Fz.sl (f:=V.str) (l:=[[41],[59]]) (m:=1) (g:=g51) (fz:=0) (c := .new) rfl (by simp -implicitDefEqProofs only[go_sem,seval,↓reduceIte];try rfl) (fun _=>rfl),trivial⟩ (by simp only [allFzO_cons,allFzO_nil,and_true];exact ⟨FzO.keep rfl (by simp -implicitDefEqProofs only[go_sem,seval,↓reduceIte];try rfl),FzO.keep rfl (by simp -implicitDefEqProofs only[go_sem,seval,↓reduceIte];try rfl)⟩) ?_;refine CuS.call hG (cTake_spec G hG sl (by omega) g ⟨i+3+n.toNat,e⟩ hi4 .old [[41],[59]] (by decide) (by decide) false) hst (by kernel_rfl) (by first | rfl | (simp -implicitDefEqProofs only[go_sem,seval,↓reduceIte,List.map_cons,List.map_nil];try rfl)) rfl (by first | rfl | (simp -implicitDefEqProofs only[go_sem,seval,↓reduceIte];try rfl)) ?_;simp -implicitDefEqProofs only[go_sem,seval,↓reduceIte,sets];refine hK _ ?_;clear hK K;refine AW.ret ?_;simp -implicitDefEqProofs only[go_sem,seval,↓reduceIte];refine endK_some ?_;rw [hP];unfold shutS;generalize takeP sl.l [[41],[59]] (i+3+n.toNat)=tk;obtain ⟨b,j⟩:=tk;cases b
 ·exact ⟨rfl,by simp -implicitDefEqProofs only[go_sem,seval,↓reduceIte];try rfl⟩
 ·exact ⟨rfl,by rw [he];simp -implicitDefEqProofs only[go_sem,seval,↓reduceIte];try rfl⟩
end Go.Hs
end
