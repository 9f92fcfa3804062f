/- A part. No condition. -/
import Derived.Test.YtegjlbpnpiigkaaGreatDoorP42
import Derived.Test.YtegjlbpnpiigkaaGreatDoorP43
set_option linter.all false
namespace Go.Hs
open Go.Proofs
set_option maxRecDepth 10000
theorem Zsx(G:Nat->V)(hE:GExp G)(sl:Sl Tk)(hT:TkOk sl.l)(g:Nat)(i:Nat)(hi:i<=sl.l.length):
  CuS G 284 [] sl g ⟨i,0⟩ (.tuple [Zbh .new (Zve sl.l 1 [58,61] [[59]] i).1,.bool ((Zve sl.l 1 [58,61] [[59]] i).2.2==0)]) ⟨(Zve sl.l 1 [58,61] [[59]] i).2.1.toNat,(Zve sl.l 1 [58,61] [[59]] i).2.2⟩:=by
 have hG:=hE.ok;have hTl:=hT.len;intro st hst
 have hP:Zve sl.l 1 [58,61] [[59]] i=if Zsk sl.l i=false then(⟨1,[],[]⟩,(i:Int),110)
  else if Zkc sl.l (i+1)≠[58,61]then(⟨1,Zkc sl.l i,[]⟩,((i+1:Nat):Int),110)
  else if(1:Int)=2/\Zkc sl.l (i+2)=[41]then Zto sl.l ⟨1,Zkc sl.l i,[]⟩ [[59]] (i+2)
  else Z6t sl.l 1 (Zkc sl.l i) [[59]] (i+2):=rfl
 generalize Zve sl.l 1 [58,61] [[59]] i=res at hP⊢;refine Zo 1000 39 [.cell 2 291,.tmp 3] Tryz.func284 λX=>?_;simp only[Zab,Z2h];refine Z1 ?_;intro g2;refine Z1 ?_;refine Z1 ?_;refine CuS.call hG (Zos G hG sl zo g ⟨i,0⟩ hi) hst zk rfl rfl zr ?_
 cases hn:Zsk sl.l i with
 |false=>
  rw[if_pos hn]at hP;have q0:(false=true)=False:=zS;simp -implicitDefEqProofs only[go_sem,seval,Zab,q0,if_false];refine Z ?_;rw[hP];exact⟨rfl,zp⟩
 |true=>
 rw[if_neg (by rw[hn];decide)]at hP
 have hil:i<sl.l.length:=by
  refine Classical.byContradiction λh=>?_;rw[Zqg zo]at hn;cases hn
 simp -implicitDefEqProofs only[go_sem,seval,Zab,if_true];refine Z1 ?_;intro g18;refine Zad (λo=>o==1018) [.ptr 21 g 0,Zb .new 1 V.str (.mk false [[58,61]])] [(21,cuO sl g st ⟨i+1,0⟩),(1002,.cells .new g2 0 [.int .u8 1,.str (Zkc sl.l i),.nils])] ⟨Fz.same _,Z4c (f:=V.str) (l:=[[58,61]]) (m:=1) (g:=g18) (fz:=0) (c:=.new) rfl zp (λ_=>rfl),trivial⟩ (by simp only[Zv,Zz,and_true];exact⟨FzO.keep rfl zp,FzO.keep rfl zp⟩) ?_;refine CuS.call hG (Z6e G hG sl zo g ⟨i+1,0⟩ hil .old [[58,61]] zd zd false) hst zk zm rfl zr ?_
 have htk:Zpd sl.l [[58,61]] (i+1)=if Zkc sl.l (i+1)=[58,61]then(true,i+2)else(false,i+1):=rfl
 by_cases hw1:Zkc sl.l (i+1)=[58,61]
 rotate_left;rw[if_pos hw1]at hP;rw[htk,if_neg hw1];have q0:(false=true)=False:=zS;simp -implicitDefEqProofs only[go_sem,seval,Zab,q0,if_false];refine Z ?_;rw[hP];exact⟨rfl,zp⟩;rw[if_neg (zu hw1),if_neg (λh=>absurd h.1 zd)]at hP;rw[htk,if_pos hw1];have hi2:i+2<=sl.l.length:=Zlo (by rw[hw1];decide);simp -implicitDefEqProofs only[go_sem,seval,Zab,if_true];refine Ztc rfl ?_;unfold Z6t at hP;have hbad:=Zww (l:=sl.l.drop (i+2));have hbd:=Zlf (l:=sl.l.drop (i+2));have hex:=Zps G hE sl hT g ⟨i+2,0⟩ hi2;simp only at hex;rw[List.length_drop]at hbd;generalize Zhb (sl.l.drop (i+2))=p at hP hbad hbd hex;obtain⟨xs,n,e⟩:=p;simp only at hP hbad hbd hex;refine Z1 ?_;refine CuS.call hG hex hst zk rfl (by first|rfl|(simp -implicitDefEqProofs only[go_sem,seval,encXs,Zfa];try rfl)) zr ?_;simp -implicitDefEqProofs only[go_sem,seval,Zab,encXs];have hx0:e≠0->xs=[]:=hbad
 by_cases he:e=0
 rotate_left;rw[if_pos he]at hP;have q1:(e==0)=false:=zu he;obtain rfl:=hx0 he;rw[q1]
 refine Z4<|Ztg [(291,.ptr 1002 g2 0,.agg [.int .u8 1,.str (Zkc sl.l i),.nils])] ⟨λj=>if j=0 then .agg [.int .u8 1,.str (Zkc sl.l i),.nils]else .top,λj=>if j=0 then .keep else if j=7 then .any else .pure⟩ zk hG zk zk ?_
 have hgn:Zb Col.new 6 Zxa (Zl [])=.nils:=rfl;refine Zsf hgn ?_;refine Z ?_;rw[hP];have hti:(((i+2:Nat):Int)+n).toNat=i+2+n.toNat:=zo;exact⟨by rw[<- q1]<;>rfl,by simp only[hti];simp -implicitDefEqProofs only[go_sem,seval];try rfl⟩
 refine Z4<|Ztg [(291,.ptr 1002 g2 0,Zbh .new ⟨1,Zkc sl.l i,xs⟩)] ⟨λj=>if j=0 then Zbh .new ⟨1,Zkc sl.l i,xs⟩else .top,λj=>if j=0 then .keep else if j=7 then .any else .pure⟩ zk hG zk zk ?_
 have q1:(e==0)=true:=zu he;rw[if_neg (zu he)]at hP;refine Zsf (zi q1 @Zzj) ?_;intro g35;have hi3:i+2+n.toNat<=sl.l.length:=zo;refine Zad (λo=>o==1035) [.ptr 21 g 0,Zb .new 1 V.str (.mk false [[59]])] [(21,cuO sl g st ⟨i+2+n.toNat,e⟩),(1002,.cells .new g2 0 [.int .u8 1,.str (Zkc sl.l i),Zb .new 6 Zxa (Zl xs)])] ⟨Fz.same _,Z4c (f:=V.str) (l:=[[59]]) (m:=1) (g:=g35) (fz:=0) (c:=.new) rfl zp (λ_=>rfl),trivial⟩ (by simp only[Zv,Zz,and_true];exact⟨FzO.keep rfl zp,FzO.keep rfl zp⟩) ?_;refine CuS.call hG (Z6e G hG sl zo g ⟨i+2+n.toNat,e⟩ hi3 .old [[59]] zd zd false) hst zk zm rfl zr ?_;refine Zu ?_;refine Z ?_;rw[hP];unfold Zto;generalize Zpd sl.l [[59]] (i+2+n.toNat)=tk;obtain⟨b,j⟩:=tk;cases b;exact⟨rfl,zp⟩;exact⟨rfl,by rw[he];simp -implicitDefEqProofs only[go_sem,seval];try rfl⟩
theorem Z6ca(G:Nat->V)(hE:GExp G)(sl:Sl Tk)(hT:TkOk sl.l)(g:Nat)(i:Nat)(hw:Zkc sl.l i=Z5i):
  CuS G 286 [] sl g ⟨i,0⟩ (.tuple [Zbh .new (Zve sl.l 2 [40] [[41],[59]] (i+1)).1,.bool ((Zve sl.l 2 [40] [[41],[59]] (i+1)).2.2==0)]) ⟨(Zve sl.l 2 [40] [[41],[59]] (i+1)).2.1.toNat,(Zve sl.l 2 [40] [[41],[59]] (i+1)).2.2⟩:=by
 have hG:=hE.ok;have hTl:=hT.len;have hil:i<sl.l.length:=Zlo (by rw[hw];decide);intro st hst
 have hP:Zve sl.l 2 [40] [[41],[59]] (i+1)=if Zsk sl.l (i+1)=false then(⟨2,[],[]⟩,((i+1:Nat):Int),110)
  else if Zkc sl.l (i+2)≠[40]then(⟨2,Zkc sl.l (i+1),[]⟩,((i+2:Nat):Int),110)
  else if(2:Int)=2/\Zkc sl.l (i+3)=[41]then Zto sl.l ⟨2,Zkc sl.l (i+1),[]⟩ [[41],[59]] (i+3)
  else Z6t sl.l 2 (Zkc sl.l (i+1)) [[41],[59]] (i+3):=rfl
 generalize Zve sl.l 2 [40] [[41],[59]] (i+1)=res at hP⊢;refine Zo 1000 53 [.cell 2 291,.tmp 3] Tryz.func286 λX=>?_;simp only[Zab,Z2h];refine Z1 ?_;intro g2;refine Z1 ?_;refine Z1 ?_;intro g8;refine Zad (λo=>o==1008) [.ptr 21 g 0,Zb .new 1 V.str (.mk false [Z5i])] [(21,cuO sl g st ⟨i,0⟩),(1002,.cells .new g2 0 [.int .u8 2,.str [],.nils])] ⟨Fz.same _,Z4c (f:=V.str) (l:=[Z5i]) (m:=1) (g:=g8) (fz:=0) (c:=.new) rfl zp (λ_=>rfl),trivial⟩ (by simp only[Zv,Zz,and_true];exact⟨FzO.keep rfl zp,FzO.keep rfl zp⟩) ?_;refine CuS.call hG (Z6e G hG sl zo g ⟨i,0⟩ (by show i<=_;omega) .old [Z5i] zd zd false) hst zk zm rfl zr ?_
 have htk:Zpd sl.l [Z5i] i=(true,i+1):=by rw[Zpd,if_pos hw]<;>rfl
 rw[htk];simp -implicitDefEqProofs only[go_sem,seval,Zab,if_true];refine Z1 ?_;refine CuS.call hG (Zos G hG sl zo g ⟨i+1,0⟩ hil) hst zk rfl rfl zr ?_
 cases hn:Zsk sl.l (i+1)with
 |false=>
  rw[if_pos hn]at hP;have q0:(false=true)=False:=zS;simp -implicitDefEqProofs only[go_sem,seval,Zab,q0,if_false];refine Z ?_;rw[hP];exact⟨rfl,zp⟩
 |true=>
 rw[if_neg (by rw[hn];decide)]at hP
 have hil1:i+1<sl.l.length:=by
  refine Classical.byContradiction λh=>?_;rw[Zqg zo]at hn;cases hn
 simp -implicitDefEqProofs only[go_sem,seval,Zab,if_true];refine Z1 ?_;intro g26;refine Zad (λo=>o==1026) [.ptr 21 g 0,Zb .new 1 V.str (.mk false [[40]])] [(21,cuO sl g st ⟨i+2,0⟩),(1002,.cells .new g2 0 [.int .u8 2,.str (Zkc sl.l (i+1)),.nils])] ⟨Fz.same _,Z4c (f:=V.str) (l:=[[40]]) (m:=1) (g:=g26) (fz:=0) (c:=.new) rfl zp (λ_=>rfl),trivial⟩ (by simp only[Zv,Zz,and_true];exact⟨FzO.keep rfl zp,FzO.keep rfl zp⟩) ?_;refine CuS.call hG (Z6e G hG sl zo g ⟨i+2,0⟩ hil1 .old [[40]] zd zd false) hst zk zm rfl zr ?_
 have htk2:Zpd sl.l [[40]] (i+2)=if Zkc sl.l (i+2)=[40]then(true,i+3)else(false,i+2):=rfl
 by_cases hw1:Zkc sl.l (i+2)=[40]
 rotate_left;rw[if_pos hw1]at hP;rw[htk2,if_neg hw1];have q0:(false=true)=False:=zS;simp -implicitDefEqProofs only[go_sem,seval,Zab,q0,if_false];refine Z ?_;rw[hP];exact⟨rfl,zp⟩;rw[if_neg (zu hw1)]at hP;rw[htk2,if_pos hw1];have hi3:i+3<=sl.l.length:=Zlo (by rw[hw1];decide);simp -implicitDefEqProofs only[go_sem,seval,Zab,if_true];refine Z1 ?_;refine CuS.call hG (Z0j G hG sl g ⟨i+3,0⟩ [41]) hst zk rfl rfl zr ?_;refine Zu ?_
 have hcond:(decide (i+3<sl.l.length)&&Zkc sl.l (i+3)==[41])=(Zkc sl.l (i+3)==[41]):=by
  by_cases h:i+3<sl.l.length
  rw[decide_eq_true h,Bool.true_and]
  rw[decide_eq_false h,Bool.false_and,Zoh zo]<;>rfl
 rw[hcond]
 by_cases hw3:Zkc sl.l (i+3)=[41]
 have q2:(Zkc sl.l (i+3)==[41])=true:=zu hw3;rw[q2];rw[if_pos ⟨rfl,hw3⟩]at hP;refine Z0 ?_
 refine Z4<|Ztg [(291,.ptr 1002 g2 0,.agg [.int .u8 2,.str (Zkc sl.l (i+1)),.nils])] ⟨λj=>if j=0 then .agg [.int .u8 2,.str (Zkc sl.l (i+1)),.nils]else .top,λj=>if j=0 then .keep else if j=5 then .any else .pure⟩ zk hG zk zk ?_
 refine Zs ?_;intro g51;refine Zad (λo=>o==1051) [.ptr 21 g 0,Zb .new 1 V.str (.mk false [[41],[59]])] [(21,cuO sl g st ⟨i+3,0⟩),(1002,.cells .new g2 0 [.int .u8 2,.str (Zkc sl.l (i+1)),.nils])] ⟨Fz.same _,Z4c (f:=V.str) (l:=[[41],[59]]) (m:=1) (g:=g51) (fz:=0) (c:=.new) rfl zp (λ_=>rfl),trivial⟩ (by simp only[Zv,Zz,and_true];exact⟨FzO.keep rfl zp,FzO.keep rfl zp⟩) ?_;refine CuS.call hG (Z6e G hG sl zo g ⟨i+3,0⟩ hi3 .old [[41],[59]] zd zd false) hst zk zm rfl zr ?_;refine Zu ?_;refine Z ?_;rw[hP];unfold Zto;generalize Zpd sl.l [[41],[59]] (i+3)=tk;obtain⟨b,j⟩:=tk;cases b;exact⟨rfl,zp⟩;exact⟨rfl,zp⟩;have q2:(Zkc sl.l (i+3)==[41])=false:=zu hw3;rw[q2];rw[if_neg (λh=>hw3 h.2)]at hP;refine Ztc rfl ?_;unfold Z6t at hP;have hbad:=Zww (l:=sl.l.drop (i+3));have hbd:=Zlf (l:=sl.l.drop (i+3));have hex:=Zps G hE sl hT g ⟨i+3,0⟩ hi3;simp only at hex;rw[List.length_drop]at hbd;generalize Zhb (sl.l.drop (i+3))=p at hP hbad hbd hex;obtain⟨xs,n,e⟩:=p;simp only at hP hbad hbd hex;refine Z1 ?_;refine CuS.call hG hex hst zk rfl (by first|rfl|(simp -implicitDefEqProofs only[go_sem,seval,encXs,Zfa];try rfl)) zr ?_;simp -implicitDefEqProofs only[go_sem,seval,Zab,encXs];have hx0:e≠0->xs=[]:=hbad
 by_cases he:e=0
 rotate_left;rw[if_pos he]at hP;have q1:(e==0)=false:=zu he;obtain rfl:=hx0 he;rw[q1];refine Z1 ?_;refine Ztc rfl ?_;have hgn:Zb Col.new 6 Zxa (Zl [])=.nils:=rfl;refine Zf hgn ?_;rw[hP];have hti:(((i+3:Nat):Int)+n).toNat=i+3+n.toNat:=zo;exact⟨by rw[<- q1]<;>rfl,by simp only[hti];simp -implicitDefEqProofs only[go_sem,seval];try rfl⟩;have q1:(e==0)=true:=zu he;rw[if_neg (zu he)]at hP;rw[q1];refine Z1 ?_;refine Z0 ?_
 refine Z4<|Ztg [(291,.ptr 1002 g2 0,Zbh .new ⟨2,Zkc sl.l (i+1),xs⟩)] ⟨λj=>if j=0 then Zbh .new ⟨2,Zkc sl.l (i+1),xs⟩else .top,λj=>if j=0 then .keep else if j=5 then .any else .pure⟩ zk hG zk zk ?_
 refine Zsf @Zzj ?_;intro g51;have hi4:i+3+n.toNat<=sl.l.length:=zo;refine Zad (λo=>o==1051) [.ptr 21 g 0,Zb .new 1 V.str (.mk false [[41],[59]])] [(21,cuO sl g st ⟨i+3+n.toNat,e⟩),(1002,.cells .new g2 0 [.int .u8 2,.str (Zkc sl.l (i+1)),Zb .new 6 Zxa (Zl xs)])] ⟨Fz.same _,Z4c (f:=V.str) (l:=[[41],[59]]) (m:=1) (g:=g51) (fz:=0) (c:=.new) rfl zp (λ_=>rfl),trivial⟩ (by simp only[Zv,Zz,and_true];exact⟨FzO.keep rfl zp,FzO.keep rfl zp⟩) ?_;refine CuS.call hG (Z6e G hG sl zo g ⟨i+3+n.toNat,e⟩ hi4 .old [[41],[59]] zd zd false) hst zk zm rfl zr ?_;refine Zu ?_;refine Z ?_;rw[hP];unfold Zto;generalize Zpd sl.l [[41],[59]] (i+3+n.toNat)=tk;obtain⟨b,j⟩:=tk;cases b;exact⟨rfl,zp⟩;exact⟨rfl,by rw[he];simp -implicitDefEqProofs only[go_sem,seval];try rfl⟩
end Go.Hs
