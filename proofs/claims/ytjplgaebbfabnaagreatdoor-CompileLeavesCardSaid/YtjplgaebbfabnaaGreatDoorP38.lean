/- A part. No condition. -/
import Derived.Test.YtjplgaebbfabnaaGreatDoorP36
import Derived.Test.YtjplgaebbfabnaaGreatDoorP37
set_option linter.all false
namespace Go.Hs
open Go.Proofs
set_option maxRecDepth 10000
theorem Ztd(G:Nat->V)(L:GExp G)(a:Sl Tk)(K:TkOk a.l)(g:Nat)(i:Nat)(hi:i<=a.l.length):
  CuS G 183 [] a g ⟨i,0⟩ (.tuple [R3 .new (Sk a.l 1 [58,61] [[59]] i).1,.bool ((Sk a.l 1 [58,61] [[59]] i).2.2==0)]) ⟨(Sk a.l 1 [58,61] [[59]] i).2.1.toNat,(Sk a.l 1 [58,61] [[59]] i).2.2⟩:=by
 have t:=L.ok;have O:=K.len;intro st r
 have d:Sk a.l 1 [58,61] [[59]] i=if N9 a.l i=false then(⟨1,[],[]⟩,(i:Int),110)
  else if Wi a.l (i+1)≠[58,61]then(⟨1,Wi a.l i,[]⟩,((i+1:Nat):Int),110)
  else if(1:Int)=2/\Wi a.l (i+2)=[41]then Jo a.l ⟨1,Wi a.l i,[]⟩ [[59]] (i+2)
  else Fc a.l 1 (Wi a.l i) [[59]] (i+2):=rfl
 generalize Sk a.l 1 [58,61] [[59]] i=N at d⊢;refine Zo 1000 39 [.cell 2 243,.tmp 3] Tryz.func183 λX=>?_;simp only[Z5,R7];refine Z1 ?_;intro z;refine Z1 ?_;refine Z1 ?_;refine CuS.call t (Bn G t a zo g ⟨i,0⟩ hi) r zk rfl rfl zr ?_
 cases y:N9 a.l i with
 |false=>
  rw[if_pos y]at d;have A:(false=true)=False:=zS;simp -implicitDefEqProofs only[go_sem,seval,Z5,A];refine Z ?_;rw[d];exact⟨rfl,zp⟩
 |true=>
 rw[if_neg (by rw[y];decide)]at d
 have D:i<a.l.length:=by
  refine Classical.byContradiction λh=>?_;rw[K2 zo]at y;cases y
 simp -implicitDefEqProofs only[go_sem,seval,Z5];refine Z1 ?_;intro J;refine Wf (λo=>o==1018) [.ptr 21 g 0,Za .new 1 V.str (.mk false [[58,61]])] [(21,Bj a g st ⟨i+1,0⟩),(1002,.cells .new z 0 [.int .u8 1,.str (Wi a.l i),.nils])] ⟨Zb,Xa (f:=V.str) (l:=[[58,61]]) (m:=1) (g:=J) (fz:=0) (c:=.new) rfl zp (λ_=>rfl),trivial⟩ (by simp only[Zt,Zv,and_true];exact⟨FzO.keep rfl zp,FzO.keep rfl zp⟩) ?_;refine CuS.call t (Rl G t a zo g ⟨i+1,0⟩ D .old [[58,61]] zd zd false) r zk zm rfl zr ?_
 have w:Vy a.l [[58,61]] (i+1)=if Wi a.l (i+1)=[58,61]then(true,i+2)else(false,i+1):=rfl
 by_cases k:Wi a.l (i+1)=[58,61]
 rotate_left;rw[if_pos k]at d;rw[w,if_neg k];have A:(false=true)=False:=zS;simp -implicitDefEqProofs only[go_sem,seval,Z5,A];refine Z ?_;rw[d];exact⟨rfl,zp⟩;rw[if_neg (zu k),if_neg (λh=>absurd h.1 zd)]at d;rw[w,if_pos k];have F:i+2<=a.l.length:=Jk (by rw[k];decide);simp -implicitDefEqProofs only[go_sem,seval,Z5];refine T8 rfl ?_;unfold Fc at d;have q:=Z1a (l:=a.l.drop (i+2));have u:=Ov (l:=a.l.drop (i+2));have s:=Bo G L a K g ⟨i+2,0⟩ F;simp only at s;rw[List.length_drop]at u;generalize X5 (a.l.drop (i+2))=p at d q u s;obtain⟨xs,n,e⟩:=p;simp only at d q u s;refine Z1 ?_;refine CuS.call t s r zk rfl (by first|rfl|(simp -implicitDefEqProofs only[go_sem,seval,encXs,Xk];try rfl)) zr ?_;simp -implicitDefEqProofs only[go_sem,seval,Z5,encXs];have B:e≠0->xs=[]:=q
 by_cases v:e=0
 rotate_left;rw[if_pos v]at d;have x:(e==0)=false:=zu v;obtain rfl:=B v;rw[x]
 refine Z6<|Ui [(243,.ptr 1002 z 0,.agg [.int .u8 1,.str (Wi a.l i),.nils])] ⟨λj=>if j=0 then .agg [.int .u8 1,.str (Wi a.l i),.nils]else .top,λj=>if j=0 then .keep else if j=7 then .any else .pure⟩ zk t zk zk ?_
 have H:Za Col.new 6 Xp (Zd [])=.nils:=rfl;refine Xr H ?_;refine Z ?_;rw[d];have C:(((i+2:Nat):Int)+n).toNat=i+2+n.toNat:=zo;exact⟨by rw[<- x]<;>rfl,by simp only[C];simp -implicitDefEqProofs only[go_sem,seval];try rfl⟩
 refine Z6<|Ui [(243,.ptr 1002 z 0,R3 .new ⟨1,Wi a.l i,xs⟩)] ⟨λj=>if j=0 then R3 .new ⟨1,Wi a.l i,xs⟩else .top,λj=>if j=0 then .keep else if j=7 then .any else .pure⟩ zk t zk zk ?_
 have x:(e==0)=true:=zu v;rw[if_neg (zu v)]at d;refine Xr (zi x @Nx) ?_;intro I;have E:i+2+n.toNat<=a.l.length:=zo;refine Wf (λo=>o==1035) [.ptr 21 g 0,Za .new 1 V.str (.mk false [[59]])] [(21,Bj a g st ⟨i+2+n.toNat,e⟩),(1002,.cells .new z 0 [.int .u8 1,.str (Wi a.l i),Za .new 6 Xp (Zd xs)])] ⟨Zb,Xa (f:=V.str) (l:=[[59]]) (m:=1) (g:=I) (fz:=0) (c:=.new) rfl zp (λ_=>rfl),trivial⟩ (by simp only[Zt,Zv,and_true];exact⟨FzO.keep rfl zp,FzO.keep rfl zp⟩) ?_;refine CuS.call t (Rl G t a zo g ⟨i+2+n.toNat,e⟩ E .old [[59]] zd zd false) r zk zm rfl zr ?_;refine Zu ?_;refine Z ?_;rw[d];unfold Jo;generalize Vy a.l [[59]] (i+2+n.toNat)=M;obtain⟨b,j⟩:=M;cases b;exact⟨rfl,zp⟩;exact⟨rfl,by rw[v];simp -implicitDefEqProofs only[go_sem,seval];try rfl⟩
theorem Zfu(G:Nat->V)(S:GExp G)(a:Sl Tk)(R:TkOk a.l)(g:Nat)(i:Nat)(Q:Wi a.l i=Ox):
  CuS G 185 [] a g ⟨i,0⟩ (.tuple [R3 .new (Sk a.l 2 [40] [[41],[59]] (i+1)).1,.bool ((Sk a.l 2 [40] [[41],[59]] (i+1)).2.2==0)]) ⟨(Sk a.l 2 [40] [[41],[59]] (i+1)).2.1.toNat,(Sk a.l 2 [40] [[41],[59]] (i+1)).2.2⟩:=by
 have q:=S.ok;have U:=R.len;have M:i<a.l.length:=Jk (by rw[Q];decide);intro st k
 have d:Sk a.l 2 [40] [[41],[59]] (i+1)=if N9 a.l (i+1)=false then(⟨2,[],[]⟩,((i+1:Nat):Int),110)
  else if Wi a.l (i+2)≠[40]then(⟨2,Wi a.l (i+1),[]⟩,((i+2:Nat):Int),110)
  else if(2:Int)=2/\Wi a.l (i+3)=[41]then Jo a.l ⟨2,Wi a.l (i+1),[]⟩ [[41],[59]] (i+3)
  else Fc a.l 2 (Wi a.l (i+1)) [[41],[59]] (i+3):=rfl
 generalize Sk a.l 2 [40] [[41],[59]] (i+1)=T at d⊢;refine Zo 1000 53 [.cell 2 243,.tmp 3] Tryz.func185 λX=>?_;simp only[Z5,R7];refine Z1 ?_;intro A;refine Z1 ?_;refine Z1 ?_;intro W;refine Wf (λo=>o==1008) [.ptr 21 g 0,Za .new 1 V.str (.mk false [Ox])] [(21,Bj a g st ⟨i,0⟩),(1002,.cells .new A 0 [.int .u8 2,.str [],.nils])] ⟨Zb,Xa (f:=V.str) (l:=[Ox]) (m:=1) (g:=W) (fz:=0) (c:=.new) rfl zp (λ_=>rfl),trivial⟩ (by simp only[Zt,Zv,and_true];exact⟨FzO.keep rfl zp,FzO.keep rfl zp⟩) ?_;refine CuS.call q (Rl G q a zo g ⟨i,0⟩ (by show i<=_;omega) .old [Ox] zd zd false) k zk zm rfl zr ?_
 have K:Vy a.l [Ox] i=(true,i+1):=by rw[Vy,if_pos Q]<;>rfl
 rw[K];simp -implicitDefEqProofs only[go_sem,seval,Z5];refine Z1 ?_;refine CuS.call q (Bn G q a zo g ⟨i+1,0⟩ M) k zk rfl rfl zr ?_
 cases E:N9 a.l (i+1)with
 |false=>
  rw[if_pos E]at d;have I:(false=true)=False:=zS;simp -implicitDefEqProofs only[go_sem,seval,Z5,I];refine Z ?_;rw[d];exact⟨rfl,zp⟩
 |true=>
 rw[if_neg (by rw[E];decide)]at d
 have B:i+1<a.l.length:=by
  refine Classical.byContradiction λh=>?_;rw[K2 zo]at E;cases E
 simp -implicitDefEqProofs only[go_sem,seval,Z5];refine Z1 ?_;intro P;refine Wf (λo=>o==1026) [.ptr 21 g 0,Za .new 1 V.str (.mk false [[40]])] [(21,Bj a g st ⟨i+2,0⟩),(1002,.cells .new A 0 [.int .u8 2,.str (Wi a.l (i+1)),.nils])] ⟨Zb,Xa (f:=V.str) (l:=[[40]]) (m:=1) (g:=P) (fz:=0) (c:=.new) rfl zp (λ_=>rfl),trivial⟩ (by simp only[Zt,Zv,and_true];exact⟨FzO.keep rfl zp,FzO.keep rfl zp⟩) ?_;refine CuS.call q (Rl G q a zo g ⟨i+2,0⟩ B .old [[40]] zd zd false) k zk zm rfl zr ?_
 have v:Vy a.l [[40]] (i+2)=if Wi a.l (i+2)=[40]then(true,i+3)else(false,i+2):=rfl
 by_cases r:Wi a.l (i+2)=[40]
 rotate_left;rw[if_pos r]at d;rw[v,if_neg r];have I:(false=true)=False:=zS;simp -implicitDefEqProofs only[go_sem,seval,Z5,I];refine Z ?_;rw[d];exact⟨rfl,zp⟩;rw[if_neg (zu r)]at d;rw[v,if_pos r];have C:i+3<=a.l.length:=Jk (by rw[r];decide);simp -implicitDefEqProofs only[go_sem,seval,Z5];refine Z1 ?_;refine CuS.call q (Le G q a g ⟨i+3,0⟩ [41]) k zk rfl rfl zr ?_;refine Zu ?_
 have w:(decide (i+3<a.l.length)&&Wi a.l (i+3)==[41])=(Wi a.l (i+3)==[41]):=by
  by_cases h:i+3<a.l.length
  rw[decide_eq_true h,Bool.true_and]
  rw[decide_eq_false h,Bool.false_and,Hd zo]<;>rfl
 rw[w]
 by_cases t:Wi a.l (i+3)=[41]
 have H:(Wi a.l (i+3)==[41])=true:=zu t;rw[H];rw[if_pos ⟨rfl,t⟩]at d;refine Z0 ?_
 refine Z6<|Ui [(243,.ptr 1002 A 0,.agg [.int .u8 2,.str (Wi a.l (i+1)),.nils])] ⟨λj=>if j=0 then .agg [.int .u8 2,.str (Wi a.l (i+1)),.nils]else .top,λj=>if j=0 then .keep else if j=5 then .any else .pure⟩ zk q zk zk ?_
 refine Zs ?_;intro y;refine Wf (λo=>o==1051) [.ptr 21 g 0,Za .new 1 V.str (.mk false [[41],[59]])] [(21,Bj a g st ⟨i+3,0⟩),(1002,.cells .new A 0 [.int .u8 2,.str (Wi a.l (i+1)),.nils])] ⟨Zb,Xa (f:=V.str) (l:=[[41],[59]]) (m:=1) (g:=y) (fz:=0) (c:=.new) rfl zp (λ_=>rfl),trivial⟩ (by simp only[Zt,Zv,and_true];exact⟨FzO.keep rfl zp,FzO.keep rfl zp⟩) ?_;refine CuS.call q (Rl G q a zo g ⟨i+3,0⟩ C .old [[41],[59]] zd zd false) k zk zm rfl zr ?_;refine Zu ?_;refine Z ?_;rw[d];unfold Jo;generalize Vy a.l [[41],[59]] (i+3)=F;obtain⟨b,j⟩:=F;cases b;exact⟨rfl,zp⟩;exact⟨rfl,zp⟩;have H:(Wi a.l (i+3)==[41])=false:=zu t;rw[H];rw[if_neg (λh=>t h.2)]at d;refine T8 rfl ?_;unfold Fc at d;have s:=Z1a (l:=a.l.drop (i+3));have x:=Ov (l:=a.l.drop (i+3));have u:=Bo G S a R g ⟨i+3,0⟩ C;simp only at u;rw[List.length_drop]at x;generalize X5 (a.l.drop (i+3))=p at d s x u;obtain⟨xs,n,e⟩:=p;simp only at d s x u;refine Z1 ?_;refine CuS.call q u k zk rfl (by first|rfl|(simp -implicitDefEqProofs only[go_sem,seval,encXs,Xk];try rfl)) zr ?_;simp -implicitDefEqProofs only[go_sem,seval,Z5,encXs];have J:e≠0->xs=[]:=s
 by_cases z:e=0
 rotate_left;rw[if_pos z]at d;have D:(e==0)=false:=zu z;obtain rfl:=J z;rw[D];refine Z1 ?_;refine T8 rfl ?_;have O:Za Col.new 6 Xp (Zd [])=.nils:=rfl;refine Zf O ?_;rw[d];have L:(((i+3:Nat):Int)+n).toNat=i+3+n.toNat:=zo;exact⟨by rw[<- D]<;>rfl,by simp only[L];simp -implicitDefEqProofs only[go_sem,seval];try rfl⟩;have D:(e==0)=true:=zu z;rw[if_neg (zu z)]at d;rw[D];refine Z1 ?_;refine Z0 ?_
 refine Z6<|Ui [(243,.ptr 1002 A 0,R3 .new ⟨2,Wi a.l (i+1),xs⟩)] ⟨λj=>if j=0 then R3 .new ⟨2,Wi a.l (i+1),xs⟩else .top,λj=>if j=0 then .keep else if j=5 then .any else .pure⟩ zk q zk zk ?_
 refine Xr @Nx ?_;intro y;have N:i+3+n.toNat<=a.l.length:=zo;refine Wf (λo=>o==1051) [.ptr 21 g 0,Za .new 1 V.str (.mk false [[41],[59]])] [(21,Bj a g st ⟨i+3+n.toNat,e⟩),(1002,.cells .new A 0 [.int .u8 2,.str (Wi a.l (i+1)),Za .new 6 Xp (Zd xs)])] ⟨Zb,Xa (f:=V.str) (l:=[[41],[59]]) (m:=1) (g:=y) (fz:=0) (c:=.new) rfl zp (λ_=>rfl),trivial⟩ (by simp only[Zt,Zv,and_true];exact⟨FzO.keep rfl zp,FzO.keep rfl zp⟩) ?_;refine CuS.call q (Rl G q a zo g ⟨i+3+n.toNat,e⟩ N .old [[41],[59]] zd zd false) k zk zm rfl zr ?_;refine Zu ?_;refine Z ?_;rw[d];unfold Jo;generalize Vy a.l [[41],[59]] (i+3+n.toNat)=F;obtain⟨b,j⟩:=F;cases b;exact⟨rfl,zp⟩;exact⟨rfl,by rw[z];simp -implicitDefEqProofs only[go_sem,seval];try rfl⟩
end Go.Hs
