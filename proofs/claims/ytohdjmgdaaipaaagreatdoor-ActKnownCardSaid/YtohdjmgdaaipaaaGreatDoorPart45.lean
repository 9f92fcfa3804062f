/- Part 45 of the proof of a statement of seat YtohdjmgdaaipaaaGreatDoor: HsHActD. -/
import Derived.Test.YtohdjmgdaaipaaaGreatDoorPart43
import Derived.Test.YtohdjmgdaaipaaaGreatDoorPart44
set_option linter.unusedSimpArgs false
set_option linter.unusedVariables false
section
namespace Go.Hs
open Go.Proofs
set_option maxRecDepth 10000
theorem Zrx (G:Nat→V) (hE:GExp G) (sl:Sl Tk) (hT:TkOk sl.l) (g:Nat) (i:Nat) (hi:i≤sl.l.length) :
  CuS G 88 [] sl g ⟨i,0⟩ (.tuple [Zsa .new (Z5d sl.l 1 [58,61] [[59]] i).1,.bool ((Z5d sl.l 1 [58,61] [[59]] i).2.2==0)]) ⟨(Z5d sl.l 1 [58,61] [[59]] i).2.1.toNat,(Z5d sl.l 1 [58,61] [[59]] i).2.2⟩:=by
 have hG:=hE.ok;have hTl:=hT.len;intro st hst
 have hP:Z5d sl.l 1 [58,61] [[59]] i=if Zng sl.l i=false then (⟨1,[],[]⟩,(i:Int),110)
  else if Znb sl.l (i+1)≠[58,61] then (⟨1,Znb sl.l i,[]⟩,((i+1:Nat):Int),110)
  else if (1:Int)=2∧Znb sl.l (i+2)=[41] then Z3g sl.l ⟨1,Znb sl.l i,[]⟩ [[59]] (i+2)
  else Z1j sl.l 1 (Znb sl.l i) [[59]] (i+2):=rfl
 generalize Z5d sl.l 1 [58,61] [[59]] i=res at hP ⊢;refine Zo 1000 39 [.cell 2 55,.tmp 3] Tryz.func88 fun X=>?_;simp only [Zub,Zph];refine Z1 ?_;intro g2;refine Z1 ?_;refine Z1 ?_;refine CuS.call hG (Zrr G hG sl (by omega) g ⟨i,0⟩ hi) hst (by kernel_rfl) rfl rfl zr ?_
 cases hn:Zng sl.l i with
 | false =>
  rw [if_pos hn] at hP
  have q0:(false=true)=False:=by simp
  simp -implicitDefEqProofs only[go_sem,seval,↓reduceIte,Zub,q0,if_false];refine Z ?_;rw [hP];exact ⟨rfl,by simp -implicitDefEqProofs only[go_sem,seval,↓reduceIte];try rfl⟩
 | true =>
 rw [if_neg (by rw [hn];decide)] at hP
 have hil:i<sl.l.length:=by
  refine Classical.byContradiction fun h=>?_;rw [Z2e (by omega)] at hn;cases hn
 simp -implicitDefEqProofs only[go_sem,seval,↓reduceIte,Zub,if_true];refine Z1 ?_;intro g18;refine Z1c (fun o=>o==1018) [.ptr 21 g 0,Zd .new 1 V.str (.mk false [[58,61]])] [(21,cuO sl g st ⟨i+1,0⟩),(1002,.cells .new g2 0 [.int .u8 1,.str (Znb sl.l i),.nils])] ⟨Ze _,Fz.sl (f:=V.str) (l:=[[58,61]]) (m:=1) (g:=g18) (fz:=0) (c := .new) rfl zp (fun _=>rfl),trivial⟩ (by simp only [Zp,Zz,and_true];exact ⟨FzO.keep rfl zp,FzO.keep rfl zp⟩) ?_;refine CuS.call hG (Z6e G hG sl (by omega) g ⟨i+1,0⟩ hil .old [[58,61]] (by decide) (by decide) false) hst (by kernel_rfl) zm rfl zr ?_
 have htk:Zwb sl.l [[58,61]] (i+1)=if Znb sl.l (i+1)=[58,61] then (true,i+2) else (false,i+1):=rfl
 by_cases hw1:Znb sl.l (i+1)=[58,61]
 rotate_left
 ·rw [if_pos hw1] at hP
  rw [htk,if_neg hw1]
  have q0:(false=true)=False:=by simp
  simp -implicitDefEqProofs only[go_sem,seval,↓reduceIte,Zub,q0,if_false];refine Z ?_;rw [hP];exact ⟨rfl,by simp -implicitDefEqProofs only[go_sem,seval,↓reduceIte];try rfl⟩
 rw [if_neg (by simpa using hw1),if_neg (fun h=>absurd h.1 (by decide))] at hP;rw [htk,if_pos hw1];have hi2:i+2≤sl.l.length:=Z7d (by rw [hw1];decide);simp -implicitDefEqProofs only[go_sem,seval,↓reduceIte,Zub,if_true];refine Zpe rfl ?_;unfold Z1j at hP;have hbad:=Zzw (l:=sl.l.drop (i+2));have hbd:=Z5h (l:=sl.l.drop (i+2));have hex:=Zsr G hE sl hT g ⟨i+2,0⟩ hi2;simp only at hex;rw [List.length_drop] at hbd;generalize Z9c (sl.l.drop (i+2))=p at hP hbad hbd hex;obtain ⟨xs,n,e⟩:=p;simp only at hP hbad hbd hex;refine Z1 ?_;refine CuS.call hG hex hst (by kernel_rfl) rfl (by first | rfl | (simp -implicitDefEqProofs only[go_sem,seval,↓reduceIte,encXs,Z4];try rfl)) zr ?_;simp -implicitDefEqProofs only[go_sem,seval,↓reduceIte,Zub,encXs];have hx0:e≠0→xs=[]:=hbad
 by_cases he:e=0
 rotate_left
 ·rw [if_pos he] at hP
  have q1:(e==0)=false:=by simpa using he
  obtain rfl:=hx0 he;rw [q1]
  refine Zy <| Zwg [(55,.ptr 1002 g2 0,.agg [.int .u8 1,.str (Znb sl.l i),.nils])] ⟨fun j=>if j=0 then .agg [.int .u8 1,.str (Znb sl.l i),.nils] else .top,fun j=>if j=0 then .keep else if j=7 then .any else .pure⟩ (by kernel_rfl) hG (by kernel_rfl) (by kernel_rfl) ?_
  have hgn:Zd Col.new 6 Zca (Zea []) = .nils:=rfl;refine Zsf hgn ?_;refine Z ?_;rw [hP]
  have hti:(((i+2:Nat):Int)+n).toNat=i+2+n.toNat:=by omega
  exact ⟨by rw [← q1]<;>rfl,by simp only [hti];simp -implicitDefEqProofs only[go_sem,seval,↓reduceIte];try rfl⟩
 refine Zy <| Zwg [(55,.ptr 1002 g2 0,Zsa .new ⟨1,Znb sl.l i,xs⟩)] ⟨fun j=>if j=0 then Zsa .new ⟨1,Znb sl.l i,xs⟩ else .top,fun j=>if j=0 then .keep else if j=7 then .any else .pure⟩ (by kernel_rfl) hG (by kernel_rfl) (by kernel_rfl) ?_
 have q1:(e==0)=true:=by simpa using he
 rw [if_neg (by simpa using he)] at hP;refine Zsf (zi q1 @Zcg) ?_;intro g35
 have hi3:i+2+n.toNat≤sl.l.length:=by omega
 refine Z1c (fun o=>o==1035) [.ptr 21 g 0,Zd .new 1 V.str (.mk false [[59]])] [(21,cuO sl g st ⟨i+2+n.toNat,e⟩),(1002,.cells .new g2 0 [.int .u8 1,.str (Znb sl.l i),Zd .new 6 Zca (Zea xs)])] ⟨Ze _,Fz.sl (f:=V.str) (l:=[[59]]) (m:=1) (g:=g35) (fz:=0) (c := .new) rfl zp (fun _=>rfl),trivial⟩ (by simp only [Zp,Zz,and_true];exact ⟨FzO.keep rfl zp,FzO.keep rfl zp⟩) ?_;refine CuS.call hG (Z6e G hG sl (by omega) g ⟨i+2+n.toNat,e⟩ hi3 .old [[59]] (by decide) (by decide) false) hst (by kernel_rfl) zm rfl zr ?_;refine Zu ?_;refine Z ?_;rw [hP];unfold Z3g;generalize Zwb sl.l [[59]] (i+2+n.toNat)=tk;obtain ⟨b,j⟩:=tk;cases b
 ·exact ⟨rfl,by simp -implicitDefEqProofs only[go_sem,seval,↓reduceIte];try rfl⟩
 ·exact ⟨rfl,by rw [he];simp -implicitDefEqProofs only[go_sem,seval,↓reduceIte];try rfl⟩
theorem Zo4 (G:Nat→V) (hE:GExp G) (sl:Sl Tk) (hT:TkOk sl.l) (g:Nat) (i:Nat) (hw:Znb sl.l i=Zmd) :
  CuS G 90 [] sl g ⟨i,0⟩ (.tuple [Zsa .new (Z5d sl.l 2 [40] [[41],[59]] (i+1)).1,.bool ((Z5d sl.l 2 [40] [[41],[59]] (i+1)).2.2==0)]) ⟨(Z5d sl.l 2 [40] [[41],[59]] (i+1)).2.1.toNat,(Z5d sl.l 2 [40] [[41],[59]] (i+1)).2.2⟩:=by
 have hG:=hE.ok;have hTl:=hT.len;have hil:i<sl.l.length:=Z7d (by rw [hw];decide);intro st hst
 have hP:Z5d sl.l 2 [40] [[41],[59]] (i+1)=if Zng sl.l (i+1)=false then (⟨2,[],[]⟩,((i+1:Nat):Int),110)
  else if Znb sl.l (i+2)≠[40] then (⟨2,Znb sl.l (i+1),[]⟩,((i+2:Nat):Int),110)
  else if (2:Int)=2∧Znb sl.l (i+3)=[41] then Z3g sl.l ⟨2,Znb sl.l (i+1),[]⟩ [[41],[59]] (i+3)
  else Z1j sl.l 2 (Znb sl.l (i+1)) [[41],[59]] (i+3):=rfl
 generalize Z5d sl.l 2 [40] [[41],[59]] (i+1)=res at hP ⊢;refine Zo 1000 53 [.cell 2 55,.tmp 3] Tryz.func90 fun X=>?_;simp only [Zub,Zph];refine Z1 ?_;intro g2;refine Z1 ?_;refine Z1 ?_;intro g8;refine Z1c (fun o=>o==1008) [.ptr 21 g 0,Zd .new 1 V.str (.mk false [Zmd])] [(21,cuO sl g st ⟨i,0⟩),(1002,.cells .new g2 0 [.int .u8 2,.str [],.nils])] ⟨Ze _,Fz.sl (f:=V.str) (l:=[Zmd]) (m:=1) (g:=g8) (fz:=0) (c := .new) rfl zp (fun _=>rfl),trivial⟩ (by simp only [Zp,Zz,and_true];exact ⟨FzO.keep rfl zp,FzO.keep rfl zp⟩) ?_;refine CuS.call hG (Z6e G hG sl (by omega) g ⟨i,0⟩ (by show i≤_;omega) .old [Zmd] (by decide) (by decide) false) hst (by kernel_rfl) zm rfl zr ?_
 have htk:Zwb sl.l [Zmd] i=(true,i+1):=by rw [Zwb,if_pos hw]<;>rfl
 rw [htk];simp -implicitDefEqProofs only[go_sem,seval,↓reduceIte,Zub,if_true];refine Z1 ?_;refine CuS.call hG (Zrr G hG sl (by omega) g ⟨i+1,0⟩ hil) hst (by kernel_rfl) rfl rfl zr ?_
 cases hn:Zng sl.l (i+1) with
 | false =>
  rw [if_pos hn] at hP
  have q0:(false=true)=False:=by simp
  simp -implicitDefEqProofs only[go_sem,seval,↓reduceIte,Zub,q0,if_false];refine Z ?_;rw [hP];exact ⟨rfl,by simp -implicitDefEqProofs only[go_sem,seval,↓reduceIte];try rfl⟩
 | true =>
 rw [if_neg (by rw [hn];decide)] at hP
 have hil1:i+1<sl.l.length:=by
  refine Classical.byContradiction fun h=>?_;rw [Z2e (by omega)] at hn;cases hn
 simp -implicitDefEqProofs only[go_sem,seval,↓reduceIte,Zub,if_true];refine Z1 ?_;intro g26;refine Z1c (fun o=>o==1026) [.ptr 21 g 0,Zd .new 1 V.str (.mk false [[40]])] [(21,cuO sl g st ⟨i+2,0⟩),(1002,.cells .new g2 0 [.int .u8 2,.str (Znb sl.l (i+1)),.nils])] ⟨Ze _,Fz.sl (f:=V.str) (l:=[[40]]) (m:=1) (g:=g26) (fz:=0) (c := .new) rfl zp (fun _=>rfl),trivial⟩ (by simp only [Zp,Zz,and_true];exact ⟨FzO.keep rfl zp,FzO.keep rfl zp⟩) ?_;refine CuS.call hG (Z6e G hG sl (by omega) g ⟨i+2,0⟩ hil1 .old [[40]] (by decide) (by decide) false) hst (by kernel_rfl) zm rfl zr ?_
 have htk2:Zwb sl.l [[40]] (i+2)=if Znb sl.l (i+2)=[40] then (true,i+3) else (false,i+2):=rfl
 by_cases hw1:Znb sl.l (i+2)=[40]
 rotate_left
 ·rw [if_pos hw1] at hP
  rw [htk2,if_neg hw1]
  have q0:(false=true)=False:=by simp
  simp -implicitDefEqProofs only[go_sem,seval,↓reduceIte,Zub,q0,if_false];refine Z ?_;rw [hP];exact ⟨rfl,by simp -implicitDefEqProofs only[go_sem,seval,↓reduceIte];try rfl⟩
 rw [if_neg (by simpa using hw1)] at hP;rw [htk2,if_pos hw1];have hi3:i+3≤sl.l.length:=Z7d (by rw [hw1];decide);simp -implicitDefEqProofs only[go_sem,seval,↓reduceIte,Zub,if_true];refine Z1 ?_;refine CuS.call hG (Z6j G hG sl g ⟨i+3,0⟩ [41]) hst (by kernel_rfl) rfl rfl zr ?_;refine Zu ?_
 have hcond:(decide (i+3<sl.l.length) && Znb sl.l (i+3)==[41])=(Znb sl.l (i+3)==[41]):=by
  by_cases h:i+3<sl.l.length
  ·rw [decide_eq_true h,Bool.true_and]
  ·rw [decide_eq_false h,Bool.false_and,Zsh (by omega)]<;>rfl
 rw [hcond]
 by_cases hw3:Znb sl.l (i+3)=[41]
 ·have q2:(Znb sl.l (i+3)==[41])=true:=by simpa using hw3
  rw [q2];rw [if_pos ⟨rfl,hw3⟩] at hP;refine Z0 ?_
  refine Zy <| Zwg [(55,.ptr 1002 g2 0,.agg [.int .u8 2,.str (Znb sl.l (i+1)),.nils])] ⟨fun j=>if j=0 then .agg [.int .u8 2,.str (Znb sl.l (i+1)),.nils] else .top,fun j=>if j=0 then .keep else if j=5 then .any else .pure⟩ (by kernel_rfl) hG (by kernel_rfl) (by kernel_rfl) ?_
  refine Zs ?_;intro g51;refine Z1c (fun o=>o==1051) [.ptr 21 g 0,Zd .new 1 V.str (.mk false [[41],[59]])] [(21,cuO sl g st ⟨i+3,0⟩),(1002,.cells .new g2 0 [.int .u8 2,.str (Znb sl.l (i+1)),.nils])] ⟨Ze _,Fz.sl (f:=V.str) (l:=[[41],[59]]) (m:=1) (g:=g51) (fz:=0) (c := .new) rfl zp (fun _=>rfl),trivial⟩ (by simp only [Zp,Zz,and_true];exact ⟨FzO.keep rfl zp,FzO.keep rfl zp⟩) ?_;refine CuS.call hG (Z6e G hG sl (by omega) g ⟨i+3,0⟩ hi3 .old [[41],[59]] (by decide) (by decide) false) hst (by kernel_rfl) zm rfl zr ?_;refine Zu ?_;refine Z ?_;rw [hP];unfold Z3g;generalize Zwb sl.l [[41],[59]] (i+3)=tk;obtain ⟨b,j⟩:=tk;cases b
  ·exact ⟨rfl,by simp -implicitDefEqProofs only[go_sem,seval,↓reduceIte];try rfl⟩
  ·exact ⟨rfl,by simp -implicitDefEqProofs only[go_sem,seval,↓reduceIte];try rfl⟩
 have q2:(Znb sl.l (i+3)==[41])=false:=by simpa using hw3
 rw [q2];rw [if_neg (fun h=>hw3 h.2)] at hP;refine Zpe rfl ?_;unfold Z1j at hP;have hbad:=Zzw (l:=sl.l.drop (i+3));have hbd:=Z5h (l:=sl.l.drop (i+3));have hex:=Zsr G hE sl hT g ⟨i+3,0⟩ hi3;simp only at hex;rw [List.length_drop] at hbd;generalize Z9c (sl.l.drop (i+3))=p at hP hbad hbd hex;obtain ⟨xs,n,e⟩:=p;simp only at hP hbad hbd hex;refine Z1 ?_;refine CuS.call hG hex hst (by kernel_rfl) rfl (by first | rfl | (simp -implicitDefEqProofs only[go_sem,seval,↓reduceIte,encXs,Z4];try rfl)) zr ?_;simp -implicitDefEqProofs only[go_sem,seval,↓reduceIte,Zub,encXs];have hx0:e≠0→xs=[]:=hbad
 by_cases he:e=0
 rotate_left
 ·rw [if_pos he] at hP
  have q1:(e==0)=false:=by simpa using he
  obtain rfl:=hx0 he;rw [q1];refine Z1 ?_;refine Zpe rfl ?_;have hgn:Zd Col.new 6 Zca (Zea []) = .nils:=rfl;refine Zf hgn ?_;rw [hP]
  have hti:(((i+3:Nat):Int)+n).toNat=i+3+n.toNat:=by omega
  exact ⟨by rw [← q1]<;>rfl,by simp only [hti];simp -implicitDefEqProofs only[go_sem,seval,↓reduceIte];try rfl⟩
 have q1:(e==0)=true:=by simpa using he
 rw [if_neg (by simpa using he)] at hP;rw [q1];refine Z1 ?_;refine Z0 ?_
 refine Zy <| Zwg [(55,.ptr 1002 g2 0,Zsa .new ⟨2,Znb sl.l (i+1),xs⟩)] ⟨fun j=>if j=0 then Zsa .new ⟨2,Znb sl.l (i+1),xs⟩ else .top,fun j=>if j=0 then .keep else if j=5 then .any else .pure⟩ (by kernel_rfl) hG (by kernel_rfl) (by kernel_rfl) ?_
 refine Zsf @Zcg ?_;intro g51
 have hi4:i+3+n.toNat≤sl.l.length:=by omega
 refine Z1c (fun o=>o==1051) [.ptr 21 g 0,Zd .new 1 V.str (.mk false [[41],[59]])] [(21,cuO sl g st ⟨i+3+n.toNat,e⟩),(1002,.cells .new g2 0 [.int .u8 2,.str (Znb sl.l (i+1)),Zd .new 6 Zca (Zea xs)])] ⟨Ze _,Fz.sl (f:=V.str) (l:=[[41],[59]]) (m:=1) (g:=g51) (fz:=0) (c := .new) rfl zp (fun _=>rfl),trivial⟩ (by simp only [Zp,Zz,and_true];exact ⟨FzO.keep rfl zp,FzO.keep rfl zp⟩) ?_;refine CuS.call hG (Z6e G hG sl (by omega) g ⟨i+3+n.toNat,e⟩ hi4 .old [[41],[59]] (by decide) (by decide) false) hst (by kernel_rfl) zm rfl zr ?_;refine Zu ?_;refine Z ?_;rw [hP];unfold Z3g;generalize Zwb sl.l [[41],[59]] (i+3+n.toNat)=tk;obtain ⟨b,j⟩:=tk;cases b
 ·exact ⟨rfl,by simp -implicitDefEqProofs only[go_sem,seval,↓reduceIte];try rfl⟩
 ·exact ⟨rfl,by rw [he];simp -implicitDefEqProofs only[go_sem,seval,↓reduceIte];try rfl⟩
end Go.Hs
end
