/- Part 45 of a proof; no condition. -/
import Derived.Test.YtegjlbpnpiigkaaGreatDoorPart43
import Derived.Test.YtegjlbpnpiigkaaGreatDoorPart44
set_option linter.unusedSimpArgs false
set_option linter.unusedVariables false
section
namespace Go.Hs
open Go.Proofs
set_option maxRecDepth 10000
theorem Z4u (G:Nat→V) (hE:GExp G) (sl:Sl Tk) (hT:TkOk sl.l) (g:Nat) (i:Nat) (hi:i≤sl.l.length) :
  CuS G 284 [] sl g ⟨i,0⟩ (.tuple [Z1g .new (Zzd sl.l 1 [58,61] [[59]] i).1,.bool ((Zzd sl.l 1 [58,61] [[59]] i).2.2==0)]) ⟨(Zzd sl.l 1 [58,61] [[59]] i).2.1.toNat,(Zzd sl.l 1 [58,61] [[59]] i).2.2⟩:=by
 have hG:=hE.ok;have hTl:=hT.len;intro st hst
 have hP:Zzd sl.l 1 [58,61] [[59]] i=if Zni sl.l i=false then (⟨1,[],[]⟩,(i:Int),110)
  else if Z5b sl.l (i+1)≠[58,61] then (⟨1,Z5b sl.l i,[]⟩,((i+1:Nat):Int),110)
  else if (1:Int)=2∧Z5b sl.l (i+2)=[41] then Z0j sl.l ⟨1,Z5b sl.l i,[]⟩ [[59]] (i+2)
  else Zoo sl.l 1 (Z5b sl.l i) [[59]] (i+2):=rfl
 generalize Zzd sl.l 1 [58,61] [[59]] i=res at hP ⊢;refine Zo 1000 39 [.cell 2 291,.tmp 3] Tryz.func284 fun X=>?_;simp only [Zob,Zuh];refine Z1 ?_;intro g2;refine Z1 ?_;refine Z1 ?_;refine CuS.call hG (Zxq G hG sl (by omega) g ⟨i,0⟩ hi) hst zk rfl rfl zr ?_
 cases hn:Zni sl.l i with
 | false =>
  rw [if_pos hn] at hP
  have q0:(false=true)=False:=by simp
  simp -implicitDefEqProofs only[go_sem,seval,Zob,q0,if_false];refine Z ?_;rw [hP];exact ⟨rfl,zp⟩
 | true =>
 rw [if_neg (by rw [hn];decide)] at hP
 have hil:i<sl.l.length:=by
  refine Classical.byContradiction fun h=>?_;rw [Zue (by omega)] at hn;cases hn
 simp -implicitDefEqProofs only[go_sem,seval,Zob,if_true];refine Z1 ?_;intro g18;refine Z2c (fun o=>o==1018) [.ptr 21 g 0,Zb .new 1 V.str (.mk false [[58,61]])] [(21,cuO sl g st ⟨i+1,0⟩),(1002,.cells .new g2 0 [.int .u8 1,.str (Z5b sl.l i),.nils])] ⟨Zd _,Zxd (f:=V.str) (l:=[[58,61]]) (m:=1) (g:=g18) (fz:=0) (c := .new) rfl zp (fun _=>rfl),trivial⟩ (by simp only [Zx,Zz,and_true];exact ⟨FzO.keep rfl zp,FzO.keep rfl zp⟩) ?_;refine CuS.call hG (Zye G hG sl (by omega) g ⟨i+1,0⟩ hil .old [[58,61]] (by decide) (by decide) false) hst zk zm rfl zr ?_
 have htk:Ztc sl.l [[58,61]] (i+1)=if Z5b sl.l (i+1)=[58,61] then (true,i+2) else (false,i+1):=rfl
 by_cases hw1:Z5b sl.l (i+1)=[58,61]
 rotate_left
 ·rw [if_pos hw1] at hP
  rw [htk,if_neg hw1]
  have q0:(false=true)=False:=by simp
  simp -implicitDefEqProofs only[go_sem,seval,Zob,q0,if_false];refine Z ?_;rw [hP];exact ⟨rfl,zp⟩
 rw [if_neg (by simpa using hw1),if_neg (fun h=>absurd h.1 (by decide))] at hP;rw [htk,if_pos hw1];have hi2:i+2≤sl.l.length:=Zhn (by rw [hw1];decide);simp -implicitDefEqProofs only[go_sem,seval,Zob,if_true];refine Zpc rfl ?_;unfold Zoo at hP;have hbad:=Zdu (l:=sl.l.drop (i+2));have hbd:=Zff (l:=sl.l.drop (i+2));have hex:=Zyq G hE sl hT g ⟨i+2,0⟩ hi2;simp only at hex;rw [List.length_drop] at hbd;generalize Z5a (sl.l.drop (i+2))=p at hP hbad hbd hex;obtain ⟨xs,n,e⟩:=p;simp only at hP hbad hbd hex;refine Z1 ?_;refine CuS.call hG hex hst zk rfl (by first | rfl | (simp -implicitDefEqProofs only[go_sem,seval,encXs,Zfa];try rfl)) zr ?_;simp -implicitDefEqProofs only[go_sem,seval,Zob,encXs];have hx0:e≠0→xs=[]:=hbad
 by_cases he:e=0
 rotate_left
 ·rw [if_pos he] at hP
  have q1:(e==0)=false:=by simpa using he
  obtain rfl:=hx0 he;rw [q1]
  refine Z5 <| Zig [(291,.ptr 1002 g2 0,.agg [.int .u8 1,.str (Z5b sl.l i),.nils])] ⟨fun j=>if j=0 then .agg [.int .u8 1,.str (Z5b sl.l i),.nils] else .top,fun j=>if j=0 then .keep else if j=7 then .any else .pure⟩ zk hG zk zk ?_
  have hgn:Zb Col.new 6 Zva (Zm []) = .nils:=rfl;refine Zsf hgn ?_;refine Z ?_;rw [hP]
  have hti:(((i+2:Nat):Int)+n).toNat=i+2+n.toNat:=by omega
  exact ⟨by rw [← q1]<;>rfl,by simp only [hti];simp -implicitDefEqProofs only[go_sem,seval];try rfl⟩
 refine Z5 <| Zig [(291,.ptr 1002 g2 0,Z1g .new ⟨1,Z5b sl.l i,xs⟩)] ⟨fun j=>if j=0 then Z1g .new ⟨1,Z5b sl.l i,xs⟩ else .top,fun j=>if j=0 then .keep else if j=7 then .any else .pure⟩ zk hG zk zk ?_
 have q1:(e==0)=true:=by simpa using he
 rw [if_neg (by simpa using he)] at hP;refine Zsf (zi q1 @Zij) ?_;intro g35
 have hi3:i+2+n.toNat≤sl.l.length:=by omega
 refine Z2c (fun o=>o==1035) [.ptr 21 g 0,Zb .new 1 V.str (.mk false [[59]])] [(21,cuO sl g st ⟨i+2+n.toNat,e⟩),(1002,.cells .new g2 0 [.int .u8 1,.str (Z5b sl.l i),Zb .new 6 Zva (Zm xs)])] ⟨Zd _,Zxd (f:=V.str) (l:=[[59]]) (m:=1) (g:=g35) (fz:=0) (c := .new) rfl zp (fun _=>rfl),trivial⟩ (by simp only [Zx,Zz,and_true];exact ⟨FzO.keep rfl zp,FzO.keep rfl zp⟩) ?_;refine CuS.call hG (Zye G hG sl (by omega) g ⟨i+2+n.toNat,e⟩ hi3 .old [[59]] (by decide) (by decide) false) hst zk zm rfl zr ?_;refine Zu ?_;refine Z ?_;rw [hP];unfold Z0j;generalize Ztc sl.l [[59]] (i+2+n.toNat)=tk;obtain ⟨b,j⟩:=tk;cases b
 ·exact ⟨rfl,zp⟩
 ·exact ⟨rfl,by rw [he];simp -implicitDefEqProofs only[go_sem,seval];try rfl⟩
theorem Zi1 (G:Nat→V) (hE:GExp G) (sl:Sl Tk) (hT:TkOk sl.l) (g:Nat) (i:Nat) (hw:Z5b sl.l i=Z2g) :
  CuS G 286 [] sl g ⟨i,0⟩ (.tuple [Z1g .new (Zzd sl.l 2 [40] [[41],[59]] (i+1)).1,.bool ((Zzd sl.l 2 [40] [[41],[59]] (i+1)).2.2==0)]) ⟨(Zzd sl.l 2 [40] [[41],[59]] (i+1)).2.1.toNat,(Zzd sl.l 2 [40] [[41],[59]] (i+1)).2.2⟩:=by
 have hG:=hE.ok;have hTl:=hT.len;have hil:i<sl.l.length:=Zhn (by rw [hw];decide);intro st hst
 have hP:Zzd sl.l 2 [40] [[41],[59]] (i+1)=if Zni sl.l (i+1)=false then (⟨2,[],[]⟩,((i+1:Nat):Int),110)
  else if Z5b sl.l (i+2)≠[40] then (⟨2,Z5b sl.l (i+1),[]⟩,((i+2:Nat):Int),110)
  else if (2:Int)=2∧Z5b sl.l (i+3)=[41] then Z0j sl.l ⟨2,Z5b sl.l (i+1),[]⟩ [[41],[59]] (i+3)
  else Zoo sl.l 2 (Z5b sl.l (i+1)) [[41],[59]] (i+3):=rfl
 generalize Zzd sl.l 2 [40] [[41],[59]] (i+1)=res at hP ⊢;refine Zo 1000 53 [.cell 2 291,.tmp 3] Tryz.func286 fun X=>?_;simp only [Zob,Zuh];refine Z1 ?_;intro g2;refine Z1 ?_;refine Z1 ?_;intro g8;refine Z2c (fun o=>o==1008) [.ptr 21 g 0,Zb .new 1 V.str (.mk false [Z2g])] [(21,cuO sl g st ⟨i,0⟩),(1002,.cells .new g2 0 [.int .u8 2,.str [],.nils])] ⟨Zd _,Zxd (f:=V.str) (l:=[Z2g]) (m:=1) (g:=g8) (fz:=0) (c := .new) rfl zp (fun _=>rfl),trivial⟩ (by simp only [Zx,Zz,and_true];exact ⟨FzO.keep rfl zp,FzO.keep rfl zp⟩) ?_;refine CuS.call hG (Zye G hG sl (by omega) g ⟨i,0⟩ (by show i≤_;omega) .old [Z2g] (by decide) (by decide) false) hst zk zm rfl zr ?_
 have htk:Ztc sl.l [Z2g] i=(true,i+1):=by rw [Ztc,if_pos hw]<;>rfl
 rw [htk];simp -implicitDefEqProofs only[go_sem,seval,Zob,if_true];refine Z1 ?_;refine CuS.call hG (Zxq G hG sl (by omega) g ⟨i+1,0⟩ hil) hst zk rfl rfl zr ?_
 cases hn:Zni sl.l (i+1) with
 | false =>
  rw [if_pos hn] at hP
  have q0:(false=true)=False:=by simp
  simp -implicitDefEqProofs only[go_sem,seval,Zob,q0,if_false];refine Z ?_;rw [hP];exact ⟨rfl,zp⟩
 | true =>
 rw [if_neg (by rw [hn];decide)] at hP
 have hil1:i+1<sl.l.length:=by
  refine Classical.byContradiction fun h=>?_;rw [Zue (by omega)] at hn;cases hn
 simp -implicitDefEqProofs only[go_sem,seval,Zob,if_true];refine Z1 ?_;intro g26;refine Z2c (fun o=>o==1026) [.ptr 21 g 0,Zb .new 1 V.str (.mk false [[40]])] [(21,cuO sl g st ⟨i+2,0⟩),(1002,.cells .new g2 0 [.int .u8 2,.str (Z5b sl.l (i+1)),.nils])] ⟨Zd _,Zxd (f:=V.str) (l:=[[40]]) (m:=1) (g:=g26) (fz:=0) (c := .new) rfl zp (fun _=>rfl),trivial⟩ (by simp only [Zx,Zz,and_true];exact ⟨FzO.keep rfl zp,FzO.keep rfl zp⟩) ?_;refine CuS.call hG (Zye G hG sl (by omega) g ⟨i+2,0⟩ hil1 .old [[40]] (by decide) (by decide) false) hst zk zm rfl zr ?_
 have htk2:Ztc sl.l [[40]] (i+2)=if Z5b sl.l (i+2)=[40] then (true,i+3) else (false,i+2):=rfl
 by_cases hw1:Z5b sl.l (i+2)=[40]
 rotate_left
 ·rw [if_pos hw1] at hP
  rw [htk2,if_neg hw1]
  have q0:(false=true)=False:=by simp
  simp -implicitDefEqProofs only[go_sem,seval,Zob,q0,if_false];refine Z ?_;rw [hP];exact ⟨rfl,zp⟩
 rw [if_neg (by simpa using hw1)] at hP;rw [htk2,if_pos hw1];have hi3:i+3≤sl.l.length:=Zhn (by rw [hw1];decide);simp -implicitDefEqProofs only[go_sem,seval,Zob,if_true];refine Z1 ?_;refine CuS.call hG (Zjj G hG sl g ⟨i+3,0⟩ [41]) hst zk rfl rfl zr ?_;refine Zu ?_
 have hcond:(decide (i+3<sl.l.length) && Z5b sl.l (i+3)==[41])=(Z5b sl.l (i+3)==[41]):=by
  by_cases h:i+3<sl.l.length
  ·rw [decide_eq_true h,Bool.true_and]
  ·rw [decide_eq_false h,Bool.false_and,Zgh (by omega)]<;>rfl
 rw [hcond]
 by_cases hw3:Z5b sl.l (i+3)=[41]
 ·have q2:(Z5b sl.l (i+3)==[41])=true:=by simpa using hw3
  rw [q2];rw [if_pos ⟨rfl,hw3⟩] at hP;refine Z0 ?_
  refine Z5 <| Zig [(291,.ptr 1002 g2 0,.agg [.int .u8 2,.str (Z5b sl.l (i+1)),.nils])] ⟨fun j=>if j=0 then .agg [.int .u8 2,.str (Z5b sl.l (i+1)),.nils] else .top,fun j=>if j=0 then .keep else if j=5 then .any else .pure⟩ zk hG zk zk ?_
  refine Zs ?_;intro g51;refine Z2c (fun o=>o==1051) [.ptr 21 g 0,Zb .new 1 V.str (.mk false [[41],[59]])] [(21,cuO sl g st ⟨i+3,0⟩),(1002,.cells .new g2 0 [.int .u8 2,.str (Z5b sl.l (i+1)),.nils])] ⟨Zd _,Zxd (f:=V.str) (l:=[[41],[59]]) (m:=1) (g:=g51) (fz:=0) (c := .new) rfl zp (fun _=>rfl),trivial⟩ (by simp only [Zx,Zz,and_true];exact ⟨FzO.keep rfl zp,FzO.keep rfl zp⟩) ?_;refine CuS.call hG (Zye G hG sl (by omega) g ⟨i+3,0⟩ hi3 .old [[41],[59]] (by decide) (by decide) false) hst zk zm rfl zr ?_;refine Zu ?_;refine Z ?_;rw [hP];unfold Z0j;generalize Ztc sl.l [[41],[59]] (i+3)=tk;obtain ⟨b,j⟩:=tk;cases b
  ·exact ⟨rfl,zp⟩
  ·exact ⟨rfl,zp⟩
 have q2:(Z5b sl.l (i+3)==[41])=false:=by simpa using hw3
 rw [q2];rw [if_neg (fun h=>hw3 h.2)] at hP;refine Zpc rfl ?_;unfold Zoo at hP;have hbad:=Zdu (l:=sl.l.drop (i+3));have hbd:=Zff (l:=sl.l.drop (i+3));have hex:=Zyq G hE sl hT g ⟨i+3,0⟩ hi3;simp only at hex;rw [List.length_drop] at hbd;generalize Z5a (sl.l.drop (i+3))=p at hP hbad hbd hex;obtain ⟨xs,n,e⟩:=p;simp only at hP hbad hbd hex;refine Z1 ?_;refine CuS.call hG hex hst zk rfl (by first | rfl | (simp -implicitDefEqProofs only[go_sem,seval,encXs,Zfa];try rfl)) zr ?_;simp -implicitDefEqProofs only[go_sem,seval,Zob,encXs];have hx0:e≠0→xs=[]:=hbad
 by_cases he:e=0
 rotate_left
 ·rw [if_pos he] at hP
  have q1:(e==0)=false:=by simpa using he
  obtain rfl:=hx0 he;rw [q1];refine Z1 ?_;refine Zpc rfl ?_;have hgn:Zb Col.new 6 Zva (Zm []) = .nils:=rfl;refine Zf hgn ?_;rw [hP]
  have hti:(((i+3:Nat):Int)+n).toNat=i+3+n.toNat:=by omega
  exact ⟨by rw [← q1]<;>rfl,by simp only [hti];simp -implicitDefEqProofs only[go_sem,seval];try rfl⟩
 have q1:(e==0)=true:=by simpa using he
 rw [if_neg (by simpa using he)] at hP;rw [q1];refine Z1 ?_;refine Z0 ?_
 refine Z5 <| Zig [(291,.ptr 1002 g2 0,Z1g .new ⟨2,Z5b sl.l (i+1),xs⟩)] ⟨fun j=>if j=0 then Z1g .new ⟨2,Z5b sl.l (i+1),xs⟩ else .top,fun j=>if j=0 then .keep else if j=5 then .any else .pure⟩ zk hG zk zk ?_
 refine Zsf @Zij ?_;intro g51
 have hi4:i+3+n.toNat≤sl.l.length:=by omega
 refine Z2c (fun o=>o==1051) [.ptr 21 g 0,Zb .new 1 V.str (.mk false [[41],[59]])] [(21,cuO sl g st ⟨i+3+n.toNat,e⟩),(1002,.cells .new g2 0 [.int .u8 2,.str (Z5b sl.l (i+1)),Zb .new 6 Zva (Zm xs)])] ⟨Zd _,Zxd (f:=V.str) (l:=[[41],[59]]) (m:=1) (g:=g51) (fz:=0) (c := .new) rfl zp (fun _=>rfl),trivial⟩ (by simp only [Zx,Zz,and_true];exact ⟨FzO.keep rfl zp,FzO.keep rfl zp⟩) ?_;refine CuS.call hG (Zye G hG sl (by omega) g ⟨i+3+n.toNat,e⟩ hi4 .old [[41],[59]] (by decide) (by decide) false) hst zk zm rfl zr ?_;refine Zu ?_;refine Z ?_;rw [hP];unfold Z0j;generalize Ztc sl.l [[41],[59]] (i+3+n.toNat)=tk;obtain ⟨b,j⟩:=tk;cases b
 ·exact ⟨rfl,zp⟩
 ·exact ⟨rfl,by rw [he];simp -implicitDefEqProofs only[go_sem,seval];try rfl⟩
end Go.Hs
end
