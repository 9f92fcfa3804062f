/- A part. No condition. -/
import Derived.Test.YtkennpiglkfalaaGreatDoorP49
set_option linter.all false
open List renaming length->aa
open Bool renaming false->ab,true->ad
open Option renaming some->ae
open Go.Proofs.Tryz
open List renaming range->aE
section
namespace Go.Hs
open Go.Proofs
set_option maxHeartbeats 8000000
set_option maxRecDepth 10000
def lE(c r):(X8 c r).cells=[Za c 1 () (Zb r.BN),r.first,Za c 1 () (Zb r.DU),Za c 1 () (Zb r.DE),Za c 2 (V6 c) (Zb (r.AT.map λe=>(e.1,Zb e.2))),.AG,r.EC]:=rfl
def AAp(G)(O:Yy G)(c d m)(q:m.p.DM)(t:Int)(t0:0<=t)(t1:t<m.p.AE.length)(most:Nat)(hmo:most<100000):Spec () G 16 [Zw c d m,t,most] Zm (Za .new 7 (X8 .new) (Zb (m.p.begT most t))):=by
 have hlw:=q.lw;have hnw:=m.nw;have H:=q.tg t t0 t1;have P:=q.sc t t0 t1;have C:=q.VI _ H.1 H.2;have S:=PM.join_beg q t0 t1;refine Zo 0 _ _ func16 λX=>?_;refine Zf Zj ?_;intro g3;refine BM (Z4 (λo=>o==3) (l:=[(1,t),(2,most),(3,qW (Zw c d m))]) (m:=[]) ?_ trivial) ?_;simp -implicitDefEqProofs only[go_sem,seval];exact⟨Zd,Zd,CS zp (by rw[Zj];exact zp)⟩;obtain⟨n,y,rfl,hn,hgy,ey⟩:=m.wyAt t0 t1;have etg:m.p.tg (n:Int)=y.target:=by rw[PM.tg,ey];rfl
 have esc:m.p.sc (n:Int)=y.AV:=by rw[PM.sc,ey];rfl
 rw[PM.begT];rw[etg]at H C S⊢;rw[esc]at P⊢;refine Ym (j5 hgy hn Z6 Zj Ya) ?_;intro g7;refine BM (Z4 (λo=>o==7) (l:=[(1,n),(2,most),(3,qW (Zw c d m)),(7,qW (Xo d y))]) (m:=[]) ?_ trivial) ?_;simp -implicitDefEqProofs only[go_sem,seval,Zj];exact⟨Zd,Zd,Zd,CS (v:=Xo d y) zp zp⟩;obtain⟨s,xs,es,hs1,hgs,exs⟩:=EH P.1 P.2;obtain⟨j,W,et,hj1,hgt,ext⟩:=EH H.1 H.2;have hks:m.p.kd y.AV=xs.AD:=by rw[PM.kd,exs];rfl
 have hkt:m.p.kd y.target=W.AD:=by rw[PM.kd,ext];rfl
 have f:=SC es et hgs hs1 hgt hj1 Z6 Zp Zj Ya;rw[hks,hkt];rw[hkt]at C S;refine Pr f O ?_;refine Ym Z6 ?_;intro g41 k;refine Z1 ?_;refine Z1 ?_;rw[es]at P;rw[et]at H C S;refine BM (Z4 (λo=>o==41) (l:=[(1,n),(2,most),(3,qW (Zw c d m)),(7,qW (Xo d y)),(8,.int .u8 xs.AD),(9,.int .u8 W.AD),(10,.ptr 10 k 0),(11,.AG),(12,n)]) (m:=[(10,qC k 0 (X8 .new (ND [(s:Int)] n)).cells)]) ?_ ?_) ?_;simp -implicitDefEqProofs only[go_sem,seval,Zj,Z6,es,et];exact⟨Zd,Zd,Zd,Zd,Zd,Zd,Zd,Zd,Zd⟩;simp only[Z2,Z5,CE];exact D_ (cs:=[.A_ 41 g41 0 1 1,n,.AG,.AG,.AG,.AG,ab]) rfl zp ⟨Xm (f:=V.int .i64) (l:=[(s:Int)]) rfl zp λ_=>rfl,Zd,Zd,Zd,Zd,Zd,Zd,AJ⟩;refine BM (Z4 (λ_=>ab) (l:=[(1,n),(2,most),(3,qW (Zw c d m)),(7,qW (Xo d y)),(8,.int .u8 xs.AD),(9,.int .u8 W.AD),(10,.ptr 10 k 0),(11,.AG),(12,n)]) (m:=[(10,qC k 0 (X8 .new (ND [(s:Int)] n)).cells)]) ?_ ?_) ?_;simp -implicitDefEqProofs only[go_sem,seval];exact⟨Zd,Zd,Zd,Zd,Zd,Zd,Zd,Zd,Zd⟩;simp only[Z2,Z5,CE];exact D_ (cs:=(X8 .new (ND [(s:Int)] n)).cells) rfl zp ⟨Zd,Zd,Zd,Zd,Zd,Zd,Zd,AJ⟩;generalize N:(if W.AD=7 then(if(m.p.intoI (j:Int)).headD (-1)=(n:Int)then m.p.begX most ((m.p.intoI (j:Int)).map m.p.sc) n (m.p.intoI (j:Int)) ((m.p.outI (j:Int)).headD 0)else[])else if xs.AD=1\/xs.AD=3\/xs.AD=4\/xs.AD=8\/xs.AD=9 then m.p.begX most [(s:Int)] n [] n else[])=B;refine Yt (fun(a:iS×iS×Int)=>st [(2,most),(3,qW (Zw c d m)),(10,.ptr 10 k 0),(11,qE (Zb a.2.1)),(12,qI a.2.2)] [(10,qC k 0 (X8 .new (ND a.1 n)).cells)]) (λa=>B=m.p.begX most a.1 n a.2.1 a.2.2/\(0<=a.2.2/\a.2.2<aa m.p.AE)/\aa a.2.1<=512) (λK hK=>?_) ?_;by_cases h7:W.AD=7
 .rw[AF h7]at N;have hj7:=C h7;have hb:=S h7;have q7:(W.AD==7)=ad:=zu h7;have hio:=vF G O c.ent d.ent m zo (j:Int);have hou:=Nt G O c.ent d.ent m zo (j:Int);obtain⟨hby,_,_,_,_,_,hil,hir⟩:=hb;obtain⟨ho1,L,_⟩:=hj7;generalize m.p.intoI (j:Int)=e at *;generalize m.p.outI (j:Int)=A at *;have eI:(Zb e).l=e:=Zl _;have eO:(Zb A).l=A:=Zl _;obtain⟨a,ha⟩:∃ a,e[0]?=ae a:=⟨_,AY zo⟩;obtain⟨b,hbb⟩:∃ b,A[0]?=ae b:=⟨_,AY zo⟩;have hl0:0<aa e:=zo;have hl1:0<aa A:=zo;have hda:e.headD (-1)=a:=by rcases e with _|⟨x,r⟩;cases hl0;cases ha;rfl
  have hdb:A.headD 0=b:=by rcases A with _|⟨x,r⟩;cases hl1;cases hbb;rfl
  rw[hda,hdb]at N;rw[hdb]at hby;refine Zf (j4 q7 et Z6 Zj) ?_;refine Zc O ?_ (s:=hio);have f8:=j4 eI ha hl0 @CB;by_cases Q:a=(n:Int)
  rotate_left
  have qa:(a != (n:Int))=ad:=by rw[JJ];exact Q
  rw[AA Q]at N;rw[<- N];exact Zh (zi qa f8);have qa:(a != (n:Int))=ab:=by rw[Q];simp
  rw[AF Q]at N;refine Zg (zi qa f8) ?_;refine Wy (aa e) (λi (g:Nat)=>st [(2,most),(3,qW (Zw c d m)),(7,qW (Xo d y)),(10,.ptr 10 k 0),(11,qE (Zb e)),(12,n),(13,i)] [(10,qC k 0 [AZ 76 g 1 ((e.take i).map m.p.sc),n,.AG,.AG,.AG,.AG,ab]),(76,Z9 g (V.int .i64) ((e.take i).map m.p.sc))]) (λ_ _=>True) 0 0 qz trivial (AO (zq (j4 @Z6 @Zj et es)) (by refine Zs ?_;exact⟨rfl,rfl⟩)) ?_;intro i g hi _ L1 E;by_cases J:i<aa e
  rotate_left;have hie:i=aa e:=zo;have hlt:=zV ((aa e:Int)<(aa e:Int));rw[hie,B_];refine BM (Z4 (λo=>o==76) (l:=[(2,most),(3,qW (Zw c d m)),(7,qW (Xo d y)),(10,.ptr 10 k 0),(11,qE (Zb e)),(13,aa e)]) (m:=[(10,qC k 0 (X8 .new (ND (e.map m.p.sc) n)).cells)]) ?_ ?_) ?_;simp -implicitDefEqProofs only[go_sem,seval];exact⟨Zd,Zd,Zd,Zd,Zd,Zd⟩;simp only[Z2,Z5,CE];exact D_ (cs:=[AZ 76 g 1 (e.map m.p.sc),n,.AG,.AG,.AG,.AG,ab]) rfl zp ⟨Yp (l:=e.map m.p.sc) (f:=V.int .i64) rfl zp BE,Zd,Zd,Zd,Zd,Zd,Zd,AJ⟩;refine Zf (j5 hlt eI et Z6 Zj) ?_;refine Zc O ?_ (s:=hou);refine Xc (j4 eO hbb hl1 @CB) ?_;refine hK _ (e.map m.p.sc,e,b) ⟨N.symm,hby,by show aa e<=512;omega⟩ (Z4 (λ_=>ab) ?_ ?_);simp -implicitDefEqProofs only[go_sem,seval,Zj];exact⟨Zd,Zd,Zd,Zd,Zd⟩;simp only[Z2,Z5,CE];exact D_ (cs:=(X8 .new (ND (e.map m.p.sc) n)).cells) rfl zp ⟨Zd,Zd,Zd,Zd,Zd,Zd,Zd,AJ⟩;have hlt:=zU ((i:Int)<(aa e:Int));have I:=AY J;have hiu:=hir _ (BT J);have hti:e.take (i+1)=e.take i++[e[i]]:=DO J;rw[hti,DL,BI,BV]at E
  have hli:aa ((e.take i).map m.p.sc)=i:=by rw[BC,CZ];omega
  generalize e[i]=u at I hiu E;generalize(e.take i).map m.p.sc=sr at E hli⊢;obtain⟨un,z,rfl,hun,hgz,ez⟩:=m.wyAt hiu.1 hiu.2;have ezs:m.p.sc (un:Int)=z.AV:=by rw[PM.sc,ez];rfl
  rw[ezs]at E;have wi:=wQ ((i:Int)+1);refine Ym (zi hlt eI) ?_;refine Pr (j8 eI J I hgz hun Z6 Zj Ya) O ?_;intro g75;refine Yg (f:=V.int .i64) (l:=sr) (l2:=[z.AV]) BE rfl rfl rfl zp (Z3 zo zO) λg2=>?_;refine Zs ?_;refine Zf wi ?_;exact E _ ⟨J,g2,AJ,AO (zq (j3 @Z6 @Zj wi)) zp⟩
 rw[AA h7]at N;have q7:(W.AD==7)=ab:=zu h7;by_cases R:xs.AD=1\/xs.AD=3\/xs.AD=4\/xs.AD=8\/xs.AD=9;rw[AF R]at N;rcases R with R|R|R|R|R<;>(refine Zf (zi q7 R) ?_;exact hK _ ([(s:Int)],[],(n:Int)) ⟨N.symm,⟨zo,zo⟩,CB _⟩ qs);rw[AA R]at N;have k1:(xs.AD != 1)=ad:=by rw[JJ];omega
 have k3:(xs.AD != 3)=ad:=by rw[JJ];omega
 have k4:(xs.AD != 4)=ad:=by rw[JJ];omega
 have k8:(xs.AD != 8)=ad:=by rw[JJ];omega
 have k9:(xs.AD != 9)=ad:=by rw[JJ];omega
 rw[<- N];exact Zq (j6 q7 k1 k3 k4 k8 k9);rintro⟨U,e,by_⟩ ⟨hBe,⟨b0,b1⟩,hil⟩;replace hBe:B=m.p.begX most U n e by_:=hBe;rw[hBe,PM.begX];have hws:=Aw G O c.ent d.ent m q by_ b0 b1 most hmo;have hwo:=PM.waysR_ok q (most:=most) b0 b1;generalize m.p.waysR most by_=F at hws hwo⊢;obtain⟨_,hwl,hwk⟩:=hwo;have eW:(Zb F).l=F:=Zl _;refine Zf Zj ?_;refine Zc O ?_ (s:=hws);refine Z ?_;generalize hT:Np most (m.p.finX most U n e) F []=T;refine Wy (aa F) (λi (x:List JW×Nat)=>st [(2,most),(3,qW (Zw c d m)),(10,.ptr 10 k 0),(11,qE (Zb e)),(14,AZ 128 x.2 7 x.1),(15,Za .new 3 (Ve .new) (Zb F)),(16,i)] [(10,qC k 0 (X8 .new (ND U n)).cells),(128,Z9 x.2 (X8 .new) x.1)])
  (λi x=>Np most (m.p.finX most U n e) (F.drop i) x.1=T/\aa x.1<=most+(most+(most+512))) 0 ([],0) qz ⟨hT,CB _⟩ (AO (zq @Zj) zp) ?_
 rintro i ⟨h,g⟩ hi ⟨D,hal⟩ L1 E;replace D:Np most (m.p.finX most U n e) (F.drop i) h=T:=D;replace hal:aa h<=most+(most+(most+512)):=hal;by_cases L:i<aa F
 rotate_left
 obtain rfl:h=T:=by rw[<- D,HT zo];rfl
 have x1:=zV ((i:Int)<(aa F:Int));refine BM (Z4 (λo=>o==128) (l:=[(2,most),(3,qW (Zw c d m)),(14,Za .new 7 (X8 .new) (Zb h)),(15,Za .new 3 (Ve .new) (Zb F)),(16,i)]) (m:=[]) ?_ trivial) ?_;simp -implicitDefEqProofs only[go_sem,seval];exact⟨Zd,Zd,Yp (l:=h) (f:=X8 .new) rfl zp BE,Zd,Zd⟩;have eA:(Zb h).l=h:=Zl _;exact Zq (j3 eA eW x1);by_cases hm:aa h<=most
 rotate_left
 obtain rfl:h=T:=by rw[<- D,Ci zo]
 have x1:=zU ((i:Int)<(aa F:Int));have x2:=zV ((aa h:Int)<=(most:Int));refine BM (Z4 (λo=>o==128) (l:=[(2,most),(3,qW (Zw c d m)),(14,Za .new 7 (X8 .new) (Zb h)),(15,Za .new 3 (Ve .new) (Zb F)),(16,i)]) (m:=[]) ?_ trivial) ?_;simp -implicitDefEqProofs only[go_sem,seval];exact⟨Zd,Zd,Yp (l:=h) (f:=X8 .new) rfl zp BE,Zd,Zd⟩;have eA:(Zb h).l=h:=Zl _;exact Zq (j4 eA eW x1 x2);have x1:=zU ((i:Int)<(aa F:Int));have x2:=zU ((aa h:Int)<=(most:Int));have I:=AY L;have Y:=hwk _ (BT L);rw[ZM I hm]at D;generalize F[i]=w at I D Y;have wi:=wQ ((i:Int)+1);have M:=λc d=>tT G O c d m q U n w Y (by have:=kf q Y;omega) (Zb e) (by rw[Zl];exact hil) most hmo;rw[Zl]at M;have hfl:=PM.finX_len q most U n e w;generalize m.p.finX most U n e w=fx at D M hfl;have eF:(Zb fx).l=fx:=Zl _;refine Ym (j3 eW x1 x2) ?_;refine H_ (j3 eW x1 x2) ?_
 repeat first|refine BK ?_|refine Zz ?_
 refine Zv ⟨λ_=>Za .new 7 (X8 .new) (Zb fx),λj=>if j=9 then .own else .pure⟩ zk O zk zk ?_;refine Xc (j7 lE Wh eW I L Zj Ya) ?_;refine⟨OwnC.of zk (M c d),?_⟩;refine Yg (f:=X8 .new) (l:=h) (l2:=fx) BE rfl rfl rfl zp (Z3 zo zo) λg2=>?_;refine Zs ?_;refine Zf wi ?_;exact E _ ⟨L,(h++fx,g2),⟨D,by show aa (h++fx)<=_;rw[BQ];omega⟩,AO (zq (zi @Zj wi)) (zp)⟩
def GQ(s:bS):Prop:=aa s<=140737488351232
structure O_(m:BR):Prop where
 nm:GQ m.name
 var:aa m.vars.l<=140737488351232/\∀ p∈m.vars.l,GQ p.1
 ev:aa m.BF.l<=140737488351232/\∀ s∈m.BF.l,GQ s
 rg:aa m.AU.l<=140737488351232/\∀ p∈m.AU.l,GQ p.1
 vt:aa m.AL.l<=140737488351232/\∀ x∈m.AL.l,GQ x.name/\GQ x.entry/\GQ x.exit/\GQ x.sub/\aa x.defers.l<=140737488351232/\∀ s∈x.defers.l,GQ s
 wy:aa m.AE.l<=140737488351232/\∀ x∈m.AE.l,GQ x.name/\GQ x.guard/\GQ x.DT/\aa x.C_.l<=140737488351232/\∀ s∈x.C_.l,GQ s
def Vi(s:bS):Bool:=decide (aa s<=100)||decide (4096<aa s)
def Lu(n most:Nat):Bool:=decide (n<=40)||(decide (most<n)&&decide (n<=600))
def Ml{n most}(h:Lu n most=ad):n<=600:=by simp only[Lu,F_,BP,CM]at h;omega
structure NI(m:BR):Prop where
 nv:aa m.vars.l<=600
 ne:aa m.BF.l<=600
 nr:aa m.AU.l<=600
 nx:aa m.AL.l<=600
 nw:aa m.AE.l<=600
 vt:∀ x∈m.AL.l,Vi x.entry=ad/\Vi x.exit=ad/\aa x.defers.l<=40
 wy:∀ x∈m.AE.l,Vi x.guard=ad/\Vi x.DT=ad/\aa x.C_.l<=40
def Pa(G)(n most:Nat):Spec () G 27 [n,most] Zm (Lu n most):=by refine Zo 0 16 _ func27 λX=>?_;rw[Lu];have a:decide ((n:Int)<=40)=decide (n<=40):=EB.2 zo;have b:decide ((n:Int)>(most:Int))=decide (most<n):=EB.2 zo;have e:decide ((n:Int)<=600)=decide (n<=600):=EB.2 zo;cases d:decide (n<=40);rw[d]at a;cases c:decide (most<n);rw[c]at b;exact Zq (zi a b);rw[c]at b;exact Zq (j3 a b e);rw[d]at a;exact Zq a
def U0(G)(s:bS):Spec () G 28 [s] Zm (Vi s):=by refine Zo 0 11 _ func28 λX=>?_;rw[Vi];have a:decide ((aa s:Int)<=100)=decide (aa s<=100):=EB.2 zo;have c:decide ((aa s:Int)>4096)=decide (4096<aa s):=EB.2 zo;cases b:decide (aa s<=100);rw[b]at a;exact Zq (zi a c);rw[b]at a;exact Zq a
def Bg(G)(j:Yy G)(c l)(m:l.l.length<=140737488351232):Spec () G 30 [Za c 1 V.AB l] Zm (λv _=>∃ b,v=.bool b/\(b=ad->l.l.length<=40)):=by refine Zo 0 19 _ func30 λX=>?_;refine Z ?_;refine Z8 [0] [] (aa l.l) (λk  _=>[(3,k)]) (λ_ _=>[]) (λ_ _=>True) 0 () qz trivial zp zp ?_;intro k _ n _ o f;by_cases d:k<aa l.l;have a:=zU ((k:Int)<(aa l.l:Int));have g:=AY d;generalize l.l[k]=x at g;have i:=wQ ((k:Int)+1);refine Zf (j4 a g d Ya) ?_;refine Zc j ?_ (s:=U0 G x);cases q:Vi x;refine Zg q ?_;exact⟨_,rfl,λh=>by cases h⟩;refine Zg (zi q i) ?_;exact f _ ⟨d,(),AJ,AO zp zp⟩;have e:k=aa l.l:=zo;have a:=zV ((k:Int)<(aa l.l:Int));rw[e]at a⊢;refine Zf a ?_;exact⟨_,rfl,λh=>by have:=JC h;omega⟩
def Tb(G)(R:Yy G)(c d m)(j:O_ m):Spec () G 29 [Zw c d m] Zm (λv _=>∃ b,v=.bool b/\(b=ad->NI m)):=by
 refine Zo 0 97 _ func29 λX=>?_;have b1:=j.var.1;have b2:=j.ev.1;have b3:=j.rg.1;have b4:=j.vt.1;have b5:=j.wy.1;simp only[Zj];refine Z ?_;intro g1;refine qF 1 [] [] 1 (Zw c d m) ?_;have w0:=wQ ((aa m.vars.l:Int)+(aa m.BF.l:Int));by_cases U:aa m.vars.l+aa m.BF.l>0;have t:=zU ((aa m.vars.l:Int)+(aa m.BF.l:Int)>0);refine Zf (j3 w0 t Zj) ?_;exact⟨_,rfl,λh=>by cases h⟩;have t:=zV ((aa m.vars.l:Int)+(aa m.BF.l:Int)>0);by_cases T:aa m.AL.l>70;have B:=zU ((aa m.AL.l:Int)>70);refine Zf (j4 w0 t B Zj) ?_;exact⟨_,rfl,λh=>by cases h⟩;have B:=zV ((aa m.AL.l:Int)>70);by_cases h2:aa m.AE.l>600;have C:=zU ((aa m.AE.l:Int)>600);refine Zf (j5 w0 t B C Zj) ?_;exact⟨_,rfl,λh=>by cases h⟩;have C:=zV ((aa m.AE.l:Int)>600);by_cases S:aa m.AU.l>70;have f3:=zU ((aa m.AU.l:Int)>70);refine Zf (j6 w0 t B C f3 Zj) ?_;exact⟨_,rfl,λh=>by cases h⟩;have f3:=zV ((aa m.AU.l:Int)>70);refine Ym (j6 w0 t B C f3 Zj) ?_;refine Z0 ?_;refine Yt (fun(_:Unit)=>st [(1,qW (Zw c d m))] []) (λ_=>∀ x∈m.AL.l,Vi x.entry=ad/\Vi x.exit=ad/\aa x.defers.l<=40) (λQ s=>?_) ?_
 .refine Z ?_;refine Z8 [1] [] (aa m.AL.l) (λk (_:Unit)=>[(3,k)]) (λ_ _=>[]) (λk _=>∀ x∈m.AL.l.take k,Vi x.entry=ad/\Vi x.exit=ad/\aa x.defers.l<=40) 0 () qz zS (Vw Zj) zp ?_;intro k _ N p P r;by_cases a:k<aa m.AL.l
  rotate_left;have n:k=aa m.AL.l:=zo;have e:=zV ((k:Int)<(aa m.AL.l:Int));rw[n,B_]at p;refine Zf (zi e Zj) ?_;exact s _ () p (AO (Vw Zj) zp);have e:=zU ((k:Int)<(aa m.AL.l:Int));have A:=AY a;have⟨z,w,u,L,E,_⟩:=j.vt.2 _ (BT a)
  have i:m.AL.l.take (k+1)=m.AL.l.take k++[m.AL.l[k]]:=by rw[DO a]
  generalize m.AL.l[k]=x at A z w u L E i;unfold GQ at z w u L;have D:=wQ ((k:Int)+1);have K:=wQ ((aa x.name:Int)+(aa x.entry:Int));have J:=wQ ((aa x.name:Int)+(aa x.entry:Int)+(aa x.exit:Int));have O:=wQ ((aa x.name:Int)+(aa x.entry:Int)+(aa x.exit:Int)+(aa x.sub:Int));have I:=wQ ((aa x.name:Int)+(aa x.entry:Int)+(aa x.exit:Int)+(aa x.sub:Int)+(aa x.defers.l:Int));refine Ym (zi e Zj) ?_;refine Ym (j5 A a Zp Zj Ya) ?_;intro Y;refine Zs ?_;have f:=j5 K J O I Zp;by_cases M:aa x.name+aa x.entry+aa x.exit+aa x.sub+aa x.defers.l>9;have q:=zU ((aa x.name:Int)+(aa x.entry:Int)+(aa x.exit:Int)+(aa x.sub:Int)+(aa x.defers.l:Int)>9);refine Zf (zi q f) ?_;exact⟨_,rfl,λh=>by cases h⟩;have q:=zV ((aa x.name:Int)+(aa x.entry:Int)+(aa x.exit:Int)+(aa x.sub:Int)+(aa x.defers.l:Int)>9);refine Zf (j3 q D f) ?_;refine r _ ⟨a,(),λy g=>?_,AO (Vw Zj) zp⟩;rw[i]at g;rcases DX.1 g with g|g;exact p y g;rw[CP.1 g];exact⟨by simp only[Vi,F_,CM];omega,by simp only[Vi,F_,CM];omega,zo⟩
 intro _ H;refine Yt (fun(_:Unit)=>st [(1,qW (Zw c d m))] []) (λ_=>∀ x∈m.AE.l,Vi x.guard=ad/\Vi x.DT=ad/\aa x.C_.l<=40) (λQ s=>?_) ?_
 .refine Z ?_;refine Z8 [1] [] (aa m.AE.l) (λk (_:Unit)=>[(5,k)]) (λ_ _=>[]) (λk _=>∀ x∈m.AE.l.take k,Vi x.guard=ad/\Vi x.DT=ad/\aa x.C_.l<=40) 0 () qz zS (Vw Zj) zp ?_;intro k _ N p P r;by_cases a:k<aa m.AE.l
  rotate_left;have n:k=aa m.AE.l:=zo;have e:=zV ((k:Int)<(aa m.AE.l:Int));rw[n,B_]at p;refine Zf (zi e Zj) ?_;exact s _ () p (AO (Vw Zj) zp);have e:=zU ((k:Int)<(aa m.AE.l:Int));have A:=AY a;have⟨z,w,u,E,_⟩:=j.wy.2 _ (BT a)
  have i:m.AE.l.take (k+1)=m.AE.l.take k++[m.AE.l[k]]:=by rw[DO a]
  generalize m.AE.l[k]=x at A z w u E i;unfold GQ at z w u;have D:=wQ ((k:Int)+1);have K:=wQ ((aa x.name:Int)+(aa x.guard:Int));have J:=wQ ((aa x.name:Int)+(aa x.guard:Int)+(aa x.DT:Int));have I:=wQ ((aa x.name:Int)+(aa x.guard:Int)+(aa x.DT:Int)+(aa x.C_.l:Int));refine Ym (zi e Zj) ?_;refine Ym (j5 A a Z6 Zj Ya) ?_;intro W;refine Zs ?_;have f:=j4 K J I Z6;by_cases M:aa x.name+aa x.guard+aa x.DT+aa x.C_.l>9;have q:=zU ((aa x.name:Int)+(aa x.guard:Int)+(aa x.DT:Int)+(aa x.C_.l:Int)>9);refine Zf (zi q f) ?_;exact⟨_,rfl,λh=>by cases h⟩;have q:=zV ((aa x.name:Int)+(aa x.guard:Int)+(aa x.DT:Int)+(aa x.C_.l:Int)>9);refine Zf (j3 q D f) ?_;refine r _ ⟨a,(),λy g=>?_,AO (Vw Zj) zp⟩;rw[i]at g;rcases DX.1 g with g|g;exact p y g;rw[CP.1 g];exact⟨by simp only[Vi,F_,CM];omega,by simp only[Vi,F_,CM];omega,zo⟩
 intro _ F;refine Zf Zj ?_;exact⟨_,rfl,λ_=>⟨zo,zo,zo,zo,zo,H,F⟩⟩
def uW(G)(a:Yy G)(c d m)(n:O_ m):Spec () G 13 [Zw c d m] Zm (λv _=>∃ b,v=.bool b/\(b=ad->NI m)):=by
 refine Zo 0 _ _ func13 λX=>?_;have S:=n.vt.1;have R:=n.wy.1;simp only[Zj];refine Z ?_;intro Q;refine qF 1 [] [] 1 (Zw c d m) ?_;refine Zf Zj ?_;refine Zc a ?_ (s:=Pa G _ _);cases q:Lu (aa m.vars.l) 64;refine Zg (zi q Zj) ?_;refine Ze a ?_ (s:=Tb G a c.ent d.ent m n);rintro _ ⟨b,rfl,g⟩;refine Zs ?_;refine Z ?_;exact⟨b,rfl,g⟩;have K:=Ml q;refine Zg (zi q Zj) ?_;refine Zc a ?_ (s:=Pa G _ _);cases q:Lu (aa m.BF.l) 64;refine Zg (zi q Zj) ?_;refine Ze a ?_ (s:=Tb G a c.ent d.ent m n);rintro _ ⟨b,rfl,g⟩;refine Zs ?_;refine Z ?_;exact⟨b,rfl,g⟩;have J:=Ml q;refine Zg (zi q Zj) ?_;refine Zc a ?_ (s:=Pa G _ _);cases q:Lu (aa m.AU.l) 512;refine Zg (zi q Zj) ?_;refine Ze a ?_ (s:=Tb G a c.ent d.ent m n);rintro _ ⟨b,rfl,g⟩;refine Zs ?_;refine Z ?_;exact⟨b,rfl,g⟩;have I:=Ml q;refine Zg (zi q Zj) ?_;refine Zc a ?_ (s:=Pa G _ _);cases q:Lu (aa m.AL.l) 512;refine Zg (zi q Zj) ?_;refine Ze a ?_ (s:=Tb G a c.ent d.ent m n);rintro _ ⟨b,rfl,g⟩;refine Zs ?_;refine Z ?_;exact⟨b,rfl,g⟩;have H:=Ml q;refine Zg (zi q Zj) ?_;refine Zc a ?_ (s:=Pa G _ _);cases q:Lu (aa m.AE.l) 512;refine Zg (zi q Zj) ?_;refine Ze a ?_ (s:=Tb G a c.ent d.ent m n);rintro _ ⟨b,rfl,g⟩;refine Zs ?_;refine Z ?_;exact⟨b,rfl,g⟩;have F:=Ml q;refine Zg (zi q Zj) ?_;refine Zc a ?_ (s:=U0 G m.name);cases q:Vi m.name;refine Zg (zi q Zj) ?_;refine Ze a ?_ (s:=Tb G a c.ent d.ent m n);rintro _ ⟨b,rfl,g⟩;refine Zs ?_;refine Z ?_;exact⟨b,rfl,g⟩;refine Xc q ?_;refine Z0 ?_;refine Yt (fun(_:Unit)=>st [(1,qW (Zw c d m))] []) (λ_=>∀ x∈m.AL.l,Vi x.entry=ad/\Vi x.exit=ad/\aa x.defers.l<=40) (λN u=>?_) ?_
 .refine Z ?_;refine Z8 [1] [] (aa m.AL.l) (λk (_:Unit)=>[(3,k)]) (λ_ _=>[]) (λk _=>∀ x∈m.AL.l.take k,Vi x.entry=ad/\Vi x.exit=ad/\aa x.defers.l<=40) 0 () qz zS (Vw Zj) zp ?_;intro k _ L r M t;by_cases e:k<aa m.AL.l
  rotate_left;have p:k=aa m.AL.l:=zo;have f:=zV ((k:Int)<(aa m.AL.l:Int));rw[p,B_]at r;refine Zf (zi f Zj) ?_;exact u _ () r (AO (Vw Zj) zp);have f:=zU ((k:Int)<(aa m.AL.l:Int));have z:=AY e;have⟨_,_,_,_,w,_⟩:=n.vt.2 _ (BT e)
  have j:m.AL.l.take (k+1)=m.AL.l.take k++[m.AL.l[k]]:=by rw[DO e]
  generalize m.AL.l[k]=x at z w j;have A:=wQ ((k:Int)+1);refine Ym (zi f Zj) ?_;refine Ym (j5 z e Zp Zj Ya) ?_;intro P;refine Zs ?_;refine Zf Zp ?_;refine Zc a ?_ (s:=U0 G x.name);cases q:Vi x.name;refine Zg q ?_;exact⟨_,rfl,λh=>by cases h⟩;refine Zg (zi q Zp) ?_;refine Zc a ?_ (s:=U0 G x.entry);cases q:Vi x.entry;refine Zg q ?_;exact⟨_,rfl,λh=>by cases h⟩;refine Zg (zi q Zp) ?_;have C:=q
  try clear q
  refine Zc a ?_ (s:=U0 G x.exit);cases q:Vi x.exit;refine Zg q ?_;exact⟨_,rfl,λh=>by cases h⟩;refine Zg (zi q Zp) ?_;have B:=q
  try clear q
  refine Zc a ?_ (s:=U0 G x.sub);cases q:Vi x.sub;refine Zg q ?_;exact⟨_,rfl,λh=>by cases h⟩;refine Zg (zi q Zp) ?_;refine Ze a ?_ (s:=Bg G a _ x.defers w);rintro _ ⟨b,rfl,g⟩;cases b;refine Zs ?_;refine Z ?_;exact⟨_,rfl,λh=>by cases h⟩;refine Zs ?_;refine Zf A ?_;refine t _ ⟨e,(),λy i=>?_,AO (Vw Zj) zp⟩;rw[j]at i;rcases DX.1 i with i|i;exact r y i;rw[CP.1 i];exact⟨C,B,g rfl⟩
 intro _ E;refine Yt (fun(_:Unit)=>st [(1,qW (Zw c d m))] []) (λ_=>∀ x∈m.AE.l,Vi x.guard=ad/\Vi x.DT=ad/\aa x.C_.l<=40) (λN u=>?_) ?_
 .refine Z ?_;refine Z8 [1] [] (aa m.AE.l) (λk (_:Unit)=>[(5,k)]) (λ_ _=>[]) (λk _=>∀ x∈m.AE.l.take k,Vi x.guard=ad/\Vi x.DT=ad/\aa x.C_.l<=40) 0 () qz zS (Vw Zj) zp ?_;intro k _ L r M t;by_cases e:k<aa m.AE.l
  rotate_left;have p:k=aa m.AE.l:=zo;have f:=zV ((k:Int)<(aa m.AE.l:Int));rw[p,B_]at r;refine Zf (zi f Zj) ?_;exact u _ () r (AO (Vw Zj) zp);have f:=zU ((k:Int)<(aa m.AE.l:Int));have z:=AY e;have⟨_,_,_,w,_⟩:=n.wy.2 _ (BT e)
  have j:m.AE.l.take (k+1)=m.AE.l.take k++[m.AE.l[k]]:=by rw[DO e]
  generalize m.AE.l[k]=x at z w j;have A:=wQ ((k:Int)+1);refine Ym (zi f Zj) ?_;refine Ym (j5 z e Z6 Zj Ya) ?_;intro O;refine Zs ?_;refine Zf Z6 ?_;refine Zc a ?_ (s:=U0 G x.name);cases q:Vi x.name;refine Zg q ?_;exact⟨_,rfl,λh=>by cases h⟩;refine Zg (zi q Z6) ?_;refine Zc a ?_ (s:=U0 G x.guard);cases q:Vi x.guard;refine Zg q ?_;exact⟨_,rfl,λh=>by cases h⟩;refine Zg (zi q Z6) ?_;have C:=q
  try clear q
  refine Zc a ?_ (s:=U0 G x.DT);cases q:Vi x.DT;refine Zg q ?_;exact⟨_,rfl,λh=>by cases h⟩;refine Zg (zi q Z6) ?_;have B:=q
  try clear q
  refine Ze a ?_ (s:=Bg G a _ x.C_ w);rintro _ ⟨b,rfl,g⟩;cases b;refine Zs ?_;refine Z ?_;exact⟨_,rfl,λh=>by cases h⟩;refine Zs ?_;refine Zf A ?_;refine t _ ⟨e,(),λy i=>?_,AO (Vw Zj) zp⟩;rw[j]at i;rcases DX.1 i with i|i;exact r y i;rw[CP.1 i];exact⟨C,B,g rfl⟩
 intro _ D;refine Z ?_;exact⟨_,rfl,λ_=>⟨K,J,I,H,F,E,D⟩⟩
def smallM:BR:=⟨[77],.nil,.nil,.mk ab [([],-1)],.mk ab [⟨[],3,0,-1,[],[],.nil,[]⟩,⟨[115],1,0,-1,[],[],.nil,[]⟩],.mk ab [⟨[],0,1,.nil,0,[],[],1⟩]⟩
def Bf(G):InSp Tryz.prog G 14 [] (Yb Zm [(7002,.AR),(7005,.AR),(7007,.AR)])
  (λv H'=>∃ g2 g5 g7,v=.agg [smallM.name,.AG,.AG,.A_ 7002 g2 0 1 2,.A_ 7005 g5 0 2 8,.A_ 7007 g7 0 1 8]/\H' 7002=qC g2 0 (flat (smallM.AU.l.map Yw))/\H' 7005=qC g5 0 (flat (smallM.AL.l.map (Y6 .old)))/\H' 7007=qC g7 0 (flat (smallM.AE.l.map (Xo .old)))):=by
 refine Wx 7000 9 [.cell 0 28] func14 rfl rfl rfl rfl λX=>?_;simp only[Yb];refine Z ?_;intro a;refine Z ?_;intro g2 g5 g7;refine Zs ?_;refine Z ?_;exact⟨g2,g5,g7,rfl,zr,zr,zr⟩
def Rd.row{α H o g fz m c f f'}{l:List α}(e:H o=.cells c g fz (flat (l.map f)))(d:∀ x,(f x).cells.length=m)(b:∀ x,∀ y∈(f x).cells,y.Im)(a:∀ x,(f x).recol AH.ent=f' x):Rd H (.A_ o g 0 l.length m) (Za .old m f' (.mk ab l)):=by have:=LO (off:=0) (n:=aa l) e d b a zo;rw[HB,B_,NS]at this;exact this
abbrev I':=@Rd.row
def eE(p):∀ y∈(Yw p).cells,y.Im:=by intro y a;simp only[Xj,V.cells,BY,CL,CF]at a;rcases a with rfl|rfl<;>first|exact .AB _|exact .int _ _
def ACI(s):∀ y∈(V.AB s).cells,y.Im:=by intro y a;simp only[V.cells,BY,CL,CF]at a;rw[a];exact .AB _
def kj(c s):(Za c 1 V.AB s).Im:=by rcases s with _|⟨b,l⟩;exact .AG;exact .slice _ _ _ _ (λx d=>by have⟨v,e,d⟩:=KK.1 d;obtain⟨a,_,rfl⟩:=CY.1 e;exact ACI a x d)
def dm(c x):∀ y∈(Y6 c x).cells,y.Im:=by intro y a;simp only[Zp,V.cells,BY,CL,CF]at a;rcases a with rfl|rfl|rfl|rfl|rfl|rfl|rfl|rfl<;>first|exact .AB _|exact .int _ _|exact kj _ _
def eY(c x):∀ y∈(Xo c x).cells,y.Im:=by intro y a;simp only[Z6,V.cells,BY,CL,CF]at a;rcases a with rfl|rfl|rfl|rfl|rfl|rfl|rfl|rfl<;>first|exact .AB _|exact .int _ _|exact kj _ _
def ABV:EM smallM:=by constructor<;>decide
def ABC:IQ smallM:=by constructor<;>decide
def NI.b{m}(f:NI m)(r:O_ m):EM m:=by have k:=f.nv;have h2:=f.ne;have j:=f.nr;have i:=f.nx;have h:=f.nw;refine⟨?_,?_,?_,?_,?_,?_,k,h2,j,i,h⟩;have:=r.nm;unfold GQ at this;omega;intro p c;have:=r.var.2 p c;unfold GQ at this;omega;intro p c;have:=r.ev.2 p c;unfold GQ at this;omega;intro p c;have:=r.rg.2 p c;unfold GQ at this;omega;intro x a;have⟨d,_,_,g,_⟩:=r.vt.2 x a;have e:=(f.vt x a).2.2;unfold GQ at d g;exact⟨zo,zo,zo⟩;intro x a;have⟨d,_⟩:=r.wy.2 x a;have e:=(f.wy x a).2.2;unfold GQ at d;exact⟨zo,zo⟩
def Fc{s}(h:Vi s=ad)(h2:s.length<=4096):s.length<=900:=by simp only[Vi,F_,CM]at h;omega
def NI.t{m}(f:NI m)(r:m.p.Rt):IQ m:=by
 have wy:∀ t∈m.AE.l,aa t.guard<=4096/\aa t.DT<=4096:=λt a=>by obtain⟨i,b,rfl⟩:=TI a;have:=r.SU i (by rw[m.nw];exact b);rw[Ri (AY b)]at this;simp only[PM.wayB,BP,CM]at this;exact⟨this.1.2,this.2⟩
 have d:∀ x∈m.AL.l,aa x.entry<=4096/\aa x.exit<=4096:=λt a=>by obtain⟨i,b,rfl⟩:=TI a;have:=r.lL i (by rw[m.nv];exact b);rw[Rj (AY b)]at this;simp only[PM.vertexB,BP,CM]at this;exact⟨this.1.1.2,this.1.2⟩
 exact⟨λt a=>Fc (f.wy t a).2.1 (wy t a).2,λt a=>Fc (f.wy t a).1 (wy t a).1,λx c=>⟨Fc (f.vt x c).1 (d x c).1,Fc (f.vt x c).2.1 (d x c).2⟩⟩
def zl(G)(f:Yy G)(c d m)(g:O_ m):Spec () G 4 [Zw c d m] Zm (λv _=>∃ b,v=.bool b/\(b=ad->NI m)):=by refine Zo 0 23 _ func4 λX=>?_;refine Zf Zj ?_;intro j;refine Zf Zj ?_;refine Ze f ?_ (s:=uW G f _ _ m g);rintro _ ⟨b,rfl,i⟩;cases b;refine Zg Zj ?_;exact⟨_,rfl,λh=>by cases h⟩;cases a:decide ((aa m.AE.l:Int)<=40);refine Zg (zi a Zj) ?_;exact⟨_,rfl,λh=>by cases h⟩;cases e:decide ((aa m.AL.l:Int)<=40);refine Zg (j3 a e Zj) ?_;exact⟨_,rfl,λh=>by cases h⟩;refine Zg (j3 a e Zj) ?_;exact⟨_,rfl,λ_=>i rfl⟩
deriving instance DecidableEq for BB
def ACt:Sl FK:=.mk ab [⟨[],3,0,-1,[],[],.nil,[]⟩,⟨[115],1,0,-1,[],[],.nil,[]⟩,⟨[],5,0,-1,[],[],.nil,[]⟩,⟨[],1,0,-1,[],[],.nil,[]⟩,⟨[],1,0,-1,[],[],.nil,[]⟩]
def ACu:Sl FZ:=.mk ab [⟨[],0,1,.nil,0,[],[],1⟩,⟨[],1,2,.nil,0,[],[],1⟩,⟨[],2,3,.nil,0,[],[],1⟩,⟨[],2,4,.nil,0,[],[],1⟩]
def smJ:BR:={smallM with AL:=ACt,AE:=ACu}
def ACv:EM smJ:=by constructor<;>decide
def ACw:IQ smJ:=by constructor<;>decide
def bO:List (BB×iS):=[(⟨[0],0,[0],[0],[(1,[])]⟩,[1])]
def smK:List (BB×iS):=[(⟨[0],0,[0],[0],[(1,[])]⟩,[1]),(⟨[1],1,[1,2],[1,2],[(3,[])]⟩,[3]),(⟨[1],1,[1,3],[1,3],[(4,[])]⟩,[4])]
def qD:smallM.p.statP Yq Yh=(bO,0,0):=by decide +kernel
def uH:smJ.p.statP Yq Yh=(smK,0,0):=by decide +kernel
def lB(s):V.Nw (qE s):=UI (λx y a=>by simp[V.cells]at a;subst a;exact .int _ _) s
def ACY(l):V.Nw (Vf .new l):=UI (λe y a=>by rw[Ut]at a;simp only[V.cells,BY,CL,CF]at a;rcases a with rfl|rfl;exact .int _ _;exact lB _) _
def kN(s)(a b:Int):V.Nw (.tuple [Za .new 6 (Wt .new) s,a,b]):=by
 refine .tuple _ λx d=>?_;simp only[BY,CL,CF]at d;rcases d with rfl|rfl|rfl;refine UI (λq y c=>?_) s;rw[Xl]at c;simp only[V.cells,BY,CL,CF]at c;rcases c with rfl|rfl|rfl|rfl|rfl|rfl<;>first|exact lB _|exact .int _ _|exact ACY _
 exact .int _ _;exact .int _ _
def ACG(c q):(Wt c q).Im:=by refine .agg _ λx a=>?_;simp only[BY,CL,CF]at a;rcases a with rfl|rfl|rfl|rfl|rfl|rfl<;>first|exact Q5 _|exact .int _ _|exact ix _ _
def NX:∀ x,∀ y∈(qI x).cells,y.Im:=λx y a=>by simp[V.cells]at a;subst a;exact .int _ _
def ACH(c):∀ x,∀ y∈(V6 c x).cells,y.Im:=λx y a=>by rw[Q4]at a;simp only[V.cells,BY,CL,CF]at a;rcases a with rfl|rfl;exact .int _ _;exact Q5 _
def iB:flat (smallM.AE.l.map (Xo .old))=[.AB [],qI 0,qI 1,.AG,qI 0,.AB [],.AB [],.int .u8 1]:=rfl
def C0:flat (smallM.AL.l.map (Y6 .old))=[.AB [],.int .u8 3,qI 0,qI (-1),.AB [],.AB [],.AG,.AB [],.AB [115],.int .u8 1,qI 0,qI (-1),.AB [],.AB [],.AG,.AB []]:=rfl
def oH(G)(n:CR G):Spec () G 5 [] Zm (λv _=>v=.bool ad):=by
 have a:=n.ok;refine Zo 0 87 _ func5 λX=>?_;refine Z ?_;refine HO [(7002,.AR),(7005,.AR),(7007,.AR)] zk (by intro p b;simp only[BY,CL,CF]at b;rcases b with rfl|rfl|rfl<;>rfl) ?_;refine(Bf G).mono ?_;rintro _ E ⟨L,J,I,rfl,i,h,g⟩;simp only[BI,BV,i,h,g];refine Zu ?_;refine Gu a [Zw .old .old smallM] zk ⟨Rd.agg ⟨Xg (.AB _) rfl,Xg .AG rfl,Xg .AG rfl,I' (l:=smallM.AU.l) zp J7 eE BE,I' (l:=smallM.AL.l) zp (Ah _) (dm _) (Fp _ _),I' (l:=smallM.AE.l) zp (Aj _) (eY _) (Fq _ _),AJ⟩,AJ⟩ ((XL G n .old .old smallM ABV (λ_=>ABC)).mono ?_);rintro _ _ rfl;rw[qD];refine⟨kN _ _ _,?_⟩;refine Zs ?_;refine NF [1,3] [] ?_;refine Z ?_;refine HO [(7002,.AR),(7005,.AR),(7007,.AR)] zk (by intro p b;simp only[BY,CL,CF]at b;rcases b with rfl|rfl|rfl<;>rfl) ?_;refine(Bf G).mono ?_;rintro _ E ⟨k2,k5,k7,rfl,i,h,g⟩;simp only[BI,BV,i,h,g];refine Zu ?_;intro K;refine Zf (zi iB C0) ?_;intro D;refine⟨Z3 zo zo,λH=>?_⟩;refine Zf (zi iB C0) ?_;intro C;refine⟨Z3 zo zo,λF=>?_⟩;refine Z ?_;refine Gu a [Zw .old .old smJ] zk ⟨Rd.agg ⟨Xg (.AB _) rfl,Xg .AG rfl,Xg .AG rfl,I' (l:=smJ.AU.l) zp J7 eE BE,I' (f:=Y6 .old) (l:=smJ.AL.l) zp (Ah _) (dm _) (Fp _ _),I' (f:=Xo .old) (l:=smJ.AE.l) zp (Aj _) (eY _) (Fq _ _),AJ⟩,AJ⟩ ((XL G n .old .old smJ ACv (λ_=>ACw)).mono ?_);rintro _ _ rfl;rw[uH];refine⟨kN _ _ _,?_⟩;refine Zs ?_;refine NF [1,3,5,7] [] ?_;have q:bO[0]?=ae (⟨[0],0,[0],[0],[(1,[])]⟩,[1]):=rfl;have o:aa bO=1:=rfl;have r:aa smK=3:=rfl;have k:smK[1]?=ae (⟨[1],1,[1,2],[1,2],[(3,[])]⟩,[3]):=rfl;have j:smK[2]?=ae (⟨[1],1,[1,3],[1,3],[(4,[])]⟩,[4]):=rfl;have d:=j7 q o r k j Xl Ya;refine Zf d ?_;intro B A z y x;refine EZ a [Wt .old (⟨[0],0,[0],[0],[(1,[])]⟩,[1]),Hb .old ⟨.mk ab [0],0,.mk ab [0],.mk ab [0],.mk ab [(1,.nil)],.mk ab [1],ab⟩] zk
  ⟨Xg (ACG .new (⟨[0],0,[0],[0],[(1,[])]⟩,[1])) (U7 AH.ent .new (⟨[0],0,[0],[0],[(1,[])]⟩,[1])),Rd.agg ⟨I' (f:=V.int .i64) (l:=[0]) zp BE NX BE,Xg (.int _ _) rfl,I' (f:=V.int .i64) (l:=[0]) zp BE NX BE,I' (f:=V.int .i64) (l:=[0]) zp BE NX BE,
   I' (f:=V6 .old) (l:=[(1,.nil)]) zp BE (ACH _) (ABR AH.ent .old),I' (f:=V.int .i64) (l:=[1]) zp BE NX BE,Xg (.bool _) rfl,AJ⟩,AJ⟩ ((A6 G a .old .old _ _ ⟨rfl,rfl,rfl,rfl,rfl,rfl⟩ ?_).mono ?_)
 constructor<;>simp;rintro _ _ rfl;refine⟨.bool _,?_⟩;refine Zf d ?_;intro w;refine EZ a [Za .old 1 (V.int .i64) (Zb [1,2]),Za .old 1 (V.int .i64) (.mk ab [1,2])] zk ⟨Xg (Q5 (Zb [1,2])) rfl,I' (f:=V.int .i64) (l:=[1,2]) zp BE NX BE,AJ⟩ ((Rp G a .old .old (Zb [1,2]) (.mk ab [1,2]) rfl zd).mono ?_);rintro _ _ rfl;refine⟨.bool _,?_⟩;refine Zg d ?_;intro u;refine EZ a [Za .old 1 (V.int .i64) (Zb [1,3]),Za .old 1 (V.int .i64) (.mk ab [1,3])] zk ⟨Xg (Q5 (Zb [1,3])) rfl,I' (f:=V.int .i64) (l:=[1,3]) zp BE NX BE,AJ⟩ ((Rp G a .old .old (Zb [1,3]) (.mk ab [1,3]) rfl zd).mono ?_);rintro _ _ rfl;refine⟨.bool _,?_⟩;refine Zg d ?_;have m:To ((Zb smK).map (J_ .old)).l 1 (aa ((Zb smK).map (J_ .old)).l)=[1,2]:=by decide +kernel
 refine Zc a ?_ (ha:=by
  simp only[BI,BV,Xr,Xz AH.ent AH.new 6 (U7 AH.ent AH.new)];rw[fW]) (s:=(D7 G a AH.new.ent AH.new.ent ((Zb smK).map (J_ AH.new.ent)) 1 zd (by intro s e;have e:s∈smK.map (J_ AH.new.ent):=e;simp only[smK,BI,BV,BY,CL,CF]at e;rcases e with rfl|rfl|rfl<;>decide)))
 intro t;rw[m];refine EZ a [Za .old 1 (V.int .i64) (Zb [1,2]),Za .old 1 (V.int .i64) (.mk ab [1,2])] zk ⟨Xg (Q5 (Zb [1,2])) rfl,I' (f:=V.int .i64) (l:=[1,2]) zp BE NX BE,AJ⟩ ((Rp G a .old .old (Zb [1,2]) (.mk ab [1,2]) rfl zd).mono ?_);rintro _ _ rfl;refine⟨.bool _,?_⟩;refine Zg d ?_;rfl
open Go.Proofs
set_option maxRecDepth 10000
set_option maxHeartbeats 8000000
def Kl(n:Nat)(p:Nat->Bool):List V:=(aE n).map λv=>V.bool (p v)
def Fo(n p):(Kl n p).length=n:=by rw[Kl,BC,HV]
def YQ{n p v}(h:v<n):(Kl n p)[v]?=ae (.bool (p v)):=by rw[Kl,ED,cH h]<;>rfl
def kH{n p v}(h:v<n):(Kl n p).set v ad=Kl n λu=>p u||u==v:=by apply QD;simp[Kl];intro j a h2;rw[JT];simp only[Kl,FG,LI];by_cases e:v=j;subst e;simp;rw[AA e];have:=OG (FS e);rw[this,DZ]
def fO(b:Bool):∀ n,Tr n [b]=Kl n λ_=>b
 |0=>rfl|n+1=>by show V.bool b::Tr n _=_;rw[fO b n,Kl,Kl,OY,BI,EL]<;>rfl
open Go.Proofs
set_option maxHeartbeats 8000000
set_option maxRecDepth 10000
def uk(G)(hG:Yy G)(c d c1 c2 c3 m)(hwf:m.p.DM)(L)(hLl:L.length<=4096)(s)(hs:m.p.AtOk s)(hsl:s.AT.length<=1000)(hL:∀ x∈L,m.p.AtOk x)(hso:∀ x∈L,x.BN≠[]/\x.AT.length<=1000)(hsr:∀ x∈L,0<=PM.srcOf x/\PM.srcOf x<m.p.AN.length)(hone:∀ x∈L,∀ v∈x.BN,m.p.kd v=4->x.BN=[v]):Spec () G 17 [Zw c d m,Za c1 7 (X8 c2) (Zb (L.map BB.r)),X8 c3 s.r] Zm (qE (Zb (m.p.reachL L s))):=by
 have hlx:=hwf.lx;have z:=m.nv;generalize hnn:aa m.AL.l=nv at z;have M:(Zb _).l=L.map BB.r:=Zl _;have ell:∀ x:BB,aa x.AT<=1000->aa x.r.AT<=1000:=λx h=>by rw[BB.r];show aa (if _ then _ else _:List _)<=_;split;exact CB _;exact h
 have N:∀ x:BB,(Zb _).l=x.r.AT.map λe=>(e.1,Zb e.2):=λx=>Zl _;have eSo:∀ x:BB,(Zb x.r.BN).l=x.BN:=λx=>Zl _;refine Zo 0 113 [.tmp 6] func17 λX=>?_;refine Zf (zi Zj Uf) ?_;intro g3 g5;refine BM (Z4 (λo=>o==3||o==5) (l:=[(1,Za c1 7 (X8 c2) (Zb (L.map BB.r))),(3,qW (Zw c d m)),(5,qW (X8 c3 s.r))]) (m:=[]) ?_ trivial) ?_;refine Zs ?_;exact⟨Zd,CS zp (by rw[Zj];exact zp),CS (v:=X8 c3 s.r) zp zp⟩;refine Ym (zi hnn Zj) ?_;refine⟨⟨TD _,zo,zo⟩,λg=>?_⟩;refine Z ?_;have hat:=PM.at_r s;refine Z8 [1,3,5,7] [] (aa s.r.AT) (λi (_:Unit)=>[(8,i)]) (λi _=>[(19,qC g 0 (Kl nv (PM.addB ((s.r.AT.take i).map (·.1)) λ_=>ab)))]) (λ_ _=>True) 0 () qz trivial (zq @Zj) (by rw[HZ,BV,PM.addB_nil];simp -implicitDefEqProofs only[go_sem,seval,fO];try rfl) ?_;intro i _ hi _ K1 hK1;by_cases b:i<aa s.r.AT;have w:=zU ((i:Int)<(aa s.r.AT:Int));have I:=AY b;have hti:s.r.AT.take (i+1)=s.r.AT.take i++[s.r.AT[i]]:=DO b;have J:=hs (s.r.AT[i]).1 (by rw[<- hat];exact TJ (BT b));rw[hti,DL,BI,BV]at hK1;generalize s.r.AT[i]=e at I J hK1;obtain⟨en,eb⟩:=e;obtain⟨e0,e1⟩:=J;obtain⟨vn,rfl⟩:∃ vn:Nat,en=(vn:Int):=⟨en.toNat,zo⟩;have n:vn<nv:=by simp only at e1;omega
 have hst:(Kl nv (PM.addB ((s.r.AT.take i).map (·.1)) λ_=>ab)).set vn ad=Kl nv (PM.addB ((s.r.AT.take i).map (·.1)++[(vn:Int)]) λ_=>ab):=by
  rw[kH n];congr 1;cases h:PM.addB ((s.r.AT.take i).map (·.1)) (λ_=>ab) (vn:Int).toNat;rw[(PM.addB_new e0 h).1];rfl;rw[(PM.addB_old e0 h).1];funext v;by_cases hv:v=vn;rw[hv];rw[GZ]at h;rw[h];rfl;have:(v==vn)=ab:=by rw[FD];exact hv
  rw[this,DZ]
 have wi:qN ((i:Int)+1)=(i:Int)+1:=Xi zo (by have:=ell s hsl;omega);have D:vn+1<=nv:=n;have hgm:(s.r.AT.map λe=>(e.1,Zb e.2))[i]?=ae ((vn:Int),Zb eb):=by rw[ED,I];rfl
 have H:aa (s.r.AT.map λe=>(e.1,Zb e.2))=aa s.r.AT:=BC ..;refine Ym (j4 w H (N s) Uf) ?_;refine Zf (kx (N s) hgm H b hst D n Fo wi @GV @CB Uf Q4 Ya) ?_;exact hK1 _ ⟨b,(),AJ,AO (zq (zi @Uf wi)) zp⟩;have hie:i=aa s.r.AT:=zo;have hlm0:aa (s.r.AT.map λe=>(e.1,Zb e.2))=aa s.r.AT:=BC ..;rw[hie,B_,hat];have hP0:∀ v,PM.addB s.BD (λ_=>ab) v=ad->v<nv:=PM.addB_rng (λv h=>by cases h) λe he=>by have:=hs e he;omega
 have hR0:PM.GJ m.p L s (PM.addB s.BD λ_=>ab) 0 (PM.addB s.BD λ_=>ab) ab:=by rcases PM.GJ.start (m:=m.p) (L:=L) (s:=s)with h|⟨v,hv,h⟩;exact h;have:=hs v hv;omega
 generalize PM.addB s.BD (λ_=>ab)=P0 at hP0 hR0⊢;refine Zf (j5 @LM hlm0 (N s) Uf Ya) ?_;refine Xw [1,3,5,7] [] (fun(x:(Nat->Bool)×Bool)=>[(9,.bool x.2)]) (λx=>[(19,qC g 0 (Kl nv x.1))]) (λx=>(∀ v,x.1 v=ad->v<nv)/\if x.2=ad then PM.GJ m.p L s x.1 0 x.1 ab else ∃ p0,PM.GJ m.p L s p0 (aa L) x.1 ab) (λx=>2*(nv-PM.cntB nv x.1)+if x.2=ad then 1 else 0) (P0,ad) ⟨hP0,hR0⟩ (zq @Uf) zp ?_;rintro⟨p,more⟩ ⟨P,hR⟩ K2 hK2;replace P:∀ v,p v=ad->v<nv:=P;cases more with
 |false=>
  obtain⟨p0,hR⟩:=(show ∃ p0,PM.GJ m.p L s p0 (aa L) p ab from hR);rw[PM.GJ.CK hL hs hone hR (by rw[z];exact P),z];refine Z ?_;refine Z8 [7] [19] nv (λv (g2:Nat)=>[(13,AZ 111 g2 1 (((aE v).filter p).map fun(v:Nat)=>(v:Int))),(14,v)]) (λv g2=>[(111,Z9 g2 (V.int .i64) (((aE v).filter p).map fun(v:Nat)=>(v:Int)))]) (λ_ _=>True) 0 0 qz trivial zp zp ?_;intro v g2 hv _ K3 j;by_cases E:v<nv
  rotate_left;have hve:v=nv:=zo;have w:=zV ((nv:Int)<(nv:Int));rw[hve];generalize((aE nv).filter p).map (fun(v:Nat)=>(v:Int))=U;refine BM (Z4 (λo=>o==111) (l:=[(7,.A_ 19 g 0 nv 1),(13,qE (Zb U)),(14,nv)]) (m:=[(19,qC g 0 (Kl nv p))]) ?_ ?_) ?_;refine Zs ?_;exact⟨Zd,Yp (l:=U) (f:=V.int .i64) rfl zp BE,Zd⟩;simp only[Z2,Z5,CE];exact DR rfl;exact Zq w;have hrv:=YQ (p:=p) E;have hv2:v+1<=nv:=E;have wv:=wQ ((v:Int)+1)
  have B:((aE (v+1)).filter p).map (fun(v:Nat)=>(v:Int))=((aE v).filter p).map (fun(v:Nat)=>(v:Int))++if p v=ad then[(v:Int)]else[]:=by rw[HW,HH,DL,OR,G_];split<;>rfl
  have hal:aa (((aE v).filter p).map fun(v:Nat)=>(v:Int))<=v:=by rw[BC];have:=IJ p (aE v);rwa [HV]at this
  rw[B]at j;generalize((aE v).filter p).map (fun(v:Nat)=>(v:Int))=U at j hal⊢;have f:=j8 hrv hv2 E Fo wv @GV @CB Ya;cases Q:p v;rw[Q,AA zS,DW]at j;refine Zf (zi Q f) ?_;exact j _ ⟨E,g2,AJ,AO zp zp⟩;rw[Q,AF rfl]at j;refine Zf (zi Q f) ?_;intro g110;refine Yg (f:=V.int .i64) (l:=U) (l2:=[(v:Int)]) BE rfl rfl rfl zp (Z3 zo zO) λg3=>?_;refine Zs ?_;refine Zf wv ?_;exact j _ ⟨E,g3,AJ,AO zp zp⟩
 |true=>
  replace hR:PM.GJ m.p L s p 0 p ab:=hR;refine Z ?_;refine Z8 [1,3,5,7] [] (aa L) (λk (x:(Nat->Bool)×Bool)=>[(9,.bool x.2),(10,k)]) (λk x=>[(19,qC g 0 (Kl nv x.1))]) (λk x=>(∀ v,x.1 v=ad->v<nv)/\PM.GJ m.p L s p k x.1 x.2) 0 (p,ab) qz ⟨P,hR⟩ zp zp ?_;rintro k ⟨q,W⟩ hk ⟨C,T⟩ K3 j;replace C:∀ v,q v=ad->v<nv:=C;replace T:PM.GJ m.p L s p k q W:=T;have K:aa (L.map BB.r)=aa L:=BC ..;by_cases t:k<aa L
  rotate_left;have hke:k=aa L:=zo;have w:=zV ((aa L:Int)<(aa L:Int));rw[hke]at T⊢;refine Zf (j3 M K w) ?_;have h1:=PM.cntB_le nv q;refine hK2 _ ⟨(q,W),?_,⟨C,?_⟩,AO zp zp⟩
  .cases W with|true=>have:=T.NE rfl;rw[z]at this;show 2*(nv-PM.cntB nv q)+1<2*(nv-PM.cntB nv p)+1;omega|false=>have e:q=p:=funext (T.no rfl).1;rw[e];show 2*(nv-PM.cntB nv p)+0<2*(nv-PM.cntB nv p)+1;omega
  .cases W with|true=>exact T.again|false=>exact⟨p,T⟩
  have w:=zU ((k:Int)<(aa L:Int));have S:=AY t;have O:=BT t;generalize L[k]=x at S O;have hgr:(L.map BB.r)[k]?=ae x.r:=by rw[ED,S];rfl
  obtain⟨F,hxl⟩:=hso x O;obtain⟨s0,s1⟩:=hsr x O;have hAx:=hL x O;have hsg:x.BN[0]?=ae (PM.srcOf x):=by rw[PM.srcOf];cases hh:x.BN with|nil=>exact absurd hh F|cons a r=>rfl
  have hsp:=JH.2 F;obtain⟨sn,xv,esn,B,hgs,exs⟩:=m.at s0 s1;have hkk:m.p.kd (PM.srcOf x)=xv.AD:=by rw[PM.kd,exs];rfl
  have u:=T.skip S;have A:=T.add hL F s0 S;rw[hkk,esn,GZ]at u A;rw[esn]at hsg;rw[hnn]at B;have wk:=wQ ((k:Int)+1);have hra:=YQ (p:=q) B;have hsn1:sn+1<=nv:=B;have f:=ACP M K hgr t (eSo x) hsg hsp hgs hnn B hsn1 hra Fo wk @GV @CB Uf Zp Zj Ya;refine Ym (j3 M K w) ?_;refine Ym f ?_;by_cases R:xv.AD=4
  rotate_left
  have x3:(xv.AD != 4)=ad:=by rw[JJ];exact R
  refine Zf (zi x3 f) ?_;exact j _ ⟨t,(q,W),⟨C,u (.inl R)⟩,AO (zq (j3 @Uf @Zj wk)) zp⟩;have x3:(xv.AD != 4)=ab:=by rw[R];rfl
  cases hq:q sn;refine Zf (j3 x3 hq f) ?_;exact j _ ⟨t,(q,W),⟨C,u (.inr hq)⟩,AO (zq (j3 @Uf @Zj wk)) zp⟩;have A:=A R hq;have hatx:=PM.at_r x;have hxl2:=ell x hxl;refine Zf (j3 x3 hq f) ?_;refine Z8 [1,3,5,7,10] [] (aa x.r.AT) (λi (_:Unit)=>[(9,.bool (W||PM.newB ((x.r.AT.take i).map (·.1)) q)),(12,i)]) (λi _=>[(19,qC g 0 (Kl nv (PM.addB ((x.r.AT.take i).map (·.1)) q)))]) (λ_ _=>True) 0 () qz trivial (by rw[HZ,BV,show PM.newB [] q=ab from rfl,DZ];simp -implicitDefEqProofs only[go_sem,seval,Uf,Zj];try rfl) (by rw[HZ,BV,PM.addB_nil];exact zp) ?_;intro i _ hi _ K4 y;have H:aa (x.r.AT.map λe=>(e.1,Zb e.2))=aa x.r.AT:=BC ..;by_cases b:i<aa x.r.AT
  rotate_left;have hie:i=aa x.r.AT:=zo;rw[hie,B_,hatx];refine Zf (SC @LM H (N x) M hgr K t wk Uf Ya) ?_;exact j _ ⟨t,(PM.addB x.BD q,W||PM.newB x.BD q),⟨PM.addB_rng C λe he=>by have:=hAx e he;omega,A⟩,AO (zq (j3 @Uf @Zj wk)) zp⟩;have hlt2:=zU ((i:Int)<(aa x.r.AT:Int));have I:=AY b;have hti:x.r.AT.take (i+1)=x.r.AT.take i++[x.r.AT[i]]:=DO b;have J:=hAx (x.r.AT[i]).1 (by rw[<- hatx];exact TJ (BT b));rw[hti,DL,BI,BV]at y;generalize x.r.AT[i]=e at I J y;obtain⟨en,eb⟩:=e;obtain⟨e0,e1⟩:=J;obtain⟨vn,rfl⟩:∃ vn:Nat,en=(vn:Int):=⟨en.toNat,zo⟩
  have n:vn<nv:=by simp only at e1;omega
  have D:vn+1<=nv:=n;have wi:=wQ ((i:Int)+1);have hgm:(x.r.AT.map λe=>(e.1,Zb e.2))[i]?=ae ((vn:Int),Zb eb):=by rw[ED,I];rfl
  generalize(x.r.AT.take i).map (·.1)=es at y⊢;have Y:=PM.addB_old (es:=es) (p:=q) e0;have hnew:=PM.addB_new (es:=es) (p:=q) e0;rw[GZ]at Y hnew;have hrv:=YQ (p:=PM.addB es q) n;have f4:=ky (N x) hgm H b M hgr K t D n hrv Fo wi @GV @CB Uf Q4 Ya;refine Ym f4 ?_;cases Q:PM.addB es q vn;obtain⟨h1,h2⟩:=hnew Q;rw[h1,h2,KG]at y;have hst:=kH (p:=PM.addB es q) n;refine Zf (j3 Q hst f4) ?_;exact y _ ⟨b,(),AJ,AO (zq (j3 @Uf @Zj wi)) zp⟩;obtain⟨h1,h2⟩:=Y Q;rw[h1,h2]at y;refine Zf (zi Q f4) ?_;exact y _ ⟨b,(),AJ,AO (zq (j3 @Uf @Zj wi)) zp⟩
def Kj(c:AH)(s:BB)(R:iS):V:=Hb c (SP s.r R)
def Vq(c s R):Kj c s R=.agg [Za c 1 () (Zb s.BN),s.first,Za c 1 () (Zb s.DU),Za c 1 () (Zb s.DE),Za c 2 (V6 c) (Zb (s.r.AT.map λe=>(e.1,Zb e.2))),Za c 1 () (Zb R),s.lost]:=rfl
@[go_sem] def AAo(g c s R):(Kj c s R).recol g=Kj (g c) s R:=XA g c _
def pS{m:PM}(h:m.FB):∀ r:Int,0<=r->r<aa m.AU->0<=m.ow r->m.ow r<aa m.AN/\m.kd (m.ow r)=1:=by intro r b a d;have:=h.lD r.toNat zo;rw[PM.regionB,show((r.toNat:Nat):Int)=r by omega,BP]at this;have:=this.2;split at this;rename_i c;have e:r=0:=zo;rw[<- e]at this;have:=CX.1 this;omega;rw[BP,PM.stateB,BP,BP,CM,CM,CX]at this;exact⟨this.1.1.2,this.1.2⟩
def uN(G)(D:Yy G)(c d c1 m)(hm:m.p.FB)(Q:m.p.DM)(hrl:m.AU.l.length<1000000)(s)(F:m.p.TZ s)(R)(hRl:R.length<1000000)(hR:∀ v∈R,0<=v/\v<m.p.AN.length):Spec () G 18 [Zw c d m,Kj c1 s R] Zm (m.p.rightS s R):=by
 have hlw:=Q.lw;have hnw:=m.nw;have hst:=pS hm;have ac:=Q.FC;have eEn:(Zb _).l=s.r.AT.map λe=>(e.1,Zb e.2):=Zl _;have W:aa (s.r.AT.map λe=>(e.1,Zb e.2))=aa s.r.AT:=BC ..;have eSo:(Zb _).l=s.BN:=Zl _;have eEf:(Zb s.DE).l=s.DE:=Zl _;have eR:(Zb R).l=R:=Zl _;have hel:aa s.r.AT<1000000:=by have:=F.el;cases h:s.lost;rw[PM.ends_r h];omega;rw[PM.ends_lost h];exact H3 _
 have hlost:∀ i,i<aa s.r.AT->s.lost=ab:=λi hi=>by cases h:s.lost;rfl;rw[PM.ends_lost h]at hi;cases hi
 have N:∀ (c d c1:AH) (l:iS),aa l<1000000->(∀ t∈l,0<=t/\t<aa m.p.AE)->Spec () G 39 [Zw c d m,Za c1 1 () (Zb l)] Zm (m.p.forkedB l):=λc d c1 l h1 h2=>by have:=Ax G D c d c1 m (Zb l) (by rw[Zl];exact h1) (by rw[Zl];exact h2) Q.sc;rwa [Zl]at this
 refine Zo 0 151 [.tmp 4] func18 λX=>?_;refine Zf (zi Zj Vq) ?_;intro g2 g3;refine BM (Z4 (λo=>o==2||o==3) (l:=[(2,qW (Zw c d m)),(3,qW (Kj c1 s R))]) (m:=[]) ?_ trivial) ?_;refine Zs ?_;exact⟨CS zp (by rw[Zj];exact zp),CS zp zp⟩;refine Z ?_;refine Z8 [2,3] [] (aa s.r.AT) (λi (_:Unit)=>[(5,i)]) (λ_ _=>[]) (λi _=>∀ j,j<i->m.p.endB s j=ad) 0 () qz (λj hj=>absurd hj (FH _)) zp zp ?_;intro i _ hi hRi K1 hK1;by_cases b:i<aa s.r.AT
 .have hlo:=hlost i b;have hre:=PM.ends_r hlo;have u:=zU ((i:Int)<(aa s.r.AT:Int));have hi2:i<aa s.AT:=by rw[<- hre];exact b
  have B:=AY hi2;have U:=BT hi2;have hge:PM.endAt s i=s.AT[i]:=by rw[PM.endAt,DK,B];rfl
  have T:(s.AT[i]).1 ≠ -1:=by have:=hlo;rw[BB.lost,JF]at this;have:=this _ U;simpa using this
  have L:=(F.ar _ U).resolve_left T;have hbr:=F.br _ U;have hbl:=F.bl _ U;have n:m.p.endB s i=(((s.AT[i]).2==[]||m.p.kd (s.AT[i]).1==1) && !m.p.forkedB (s.AT[i]).2&&(aE i).all λk=>m.p.orthoB (PM.endAt s k).1 (s.AT[i]).1):=by
   have hn:((s.AT[i]).1 == -1)=ab:=by rw[FD];exact T
   rw[PM.endB,hge,hn];rfl
  have hno:=λh=>PM.right_end (m:=m.p) (R:=R) hi2 h;generalize s.AT[i]=e at B hge T L hbr hbl n;have⟨ea,y⟩:=e;simp only at B hge T L hbr hbl n;obtain⟨vn,xv,rfl,hvn,hgv,exv⟩:=m.at L.1 L.2;have hkk:m.p.kd (vn:Int)=xv.AD:=by rw[PM.kd,exv];rfl
  have eB:(Zb y).l=y:=Zl _;have hgm:(s.r.AT.map λe=>(e.1,Zb e.2))[i]?=ae ((vn:Int),Zb y):=by rw[hre,ED,B];rfl
  have f:=SD eEn hgm W b eB hgv hvn Vq Q4 Zp Zj @CB Ya;refine Ym (j4 eEn W u Vq) ?_;refine H_ (j4 eEn W u Vq) ?_;refine Zz ?_;refine BK ?_;refine Yt (fun(_:Unit)=>st [(2,qW (Zw c d m)),(3,qW (Kj c1 s R)),(5,i)] []) (λ_=>((y==[]||m.p.kd (vn:Int)==1) && !m.p.forkedB y)=ad) (λK hK=>?_) ?_;refine Zz ?_;by_cases hb:y=[];have M:decide ((aa y:Int)>0)=ab:=by rw[hb];rfl
  have C:m.p.forkedB y=ab:=by rw[hb];rfl
  refine Zv ⟨λ_=>.bool (m.p.forkedB y),λ_=>.pure⟩ zk D zk zk ?_;refine Xc (zi M f) ?_;refine⟨⟨zk,?_⟩,?_⟩;refine Zs ?_;exact zM (N _ _ _ y zo hbr);refine Zg C ?_;exact hK _ () (by rw[C,hb];rfl) (AO (zq (zi @Vq @Zj)) zp);have M:decide ((aa y:Int)>0)=ad:=by have:=JH.2 hb;rw[CM];omega
  have hbn:(y==[])=ab:=by rw[FD];exact hb
  by_cases A:xv.AD=1;have q2:(xv.AD != 1)=ab:=by rw[A];rfl
  refine Zv ⟨λ_=>.bool (m.p.forkedB y),λ_=>.pure⟩ zk D zk zk ?_;refine Xc (j3 M q2 f) ?_;refine⟨⟨zk,?_⟩,?_⟩;refine Zs ?_;exact zM (N _ _ _ y zo hbr);cases C:m.p.forkedB y;refine Zg C ?_;exact hK _ () (by rw[C,hkk,A];simp) (AO (zq (zi @Vq @Zj)) zp);rw[hno (by rw[n,C];simp)];exact Zh C;have q2:(xv.AD != 1)=ad:=by rw[JJ];exact A
  refine Zv ⟨λ_=>.bool (m.p.forkedB y),λ_=>.pure⟩ zk D zk zk ?_;refine Xc (j3 M q2 f) ?_;rw[hno (by rw[n,hbn,hkk];simp[A])];exact Zr;rintro _ he2;have P:=wQ ((i:Int)+1);refine Z ?_;refine Z8 [2,3,5] [] i (λk (_:Unit)=>[(6,k)]) (λ_ _=>[]) (λk _=>∀ j,j<k->m.p.orthoB (PM.endAt s j).1 (vn:Int)=ad) 0 () qz (λj hj=>absurd hj (FH _)) zp zp ?_;intro k _ hk hRk K2 x;by_cases A:k<i
  rotate_left;have hke:k=i:=zo;have E:=zV ((i:Int)<(i:Int));rw[hke]at hRk⊢;refine Zf (zi E P) ?_
  exact hK1 _ ⟨b,(),λj hj=>(by rcases JU.1 hj with h|rfl;exact hRi j h;rw[n,he2,DJ,ER];exact λk hk=>hRk k (DC.1 hk)),AO zp zp⟩
  have E:=zU ((k:Int)<(i:Int));have hk2:k<aa s.r.AT:=zo;have hk3:k<aa s.AT:=zo;have hgk:=AY hk3;have hmk:=BT hk3;have H:PM.endAt s k=s.AT[k]:=by rw[PM.endAt,DK,hgk];rfl
  have hnek:(s.AT[k]).1 ≠ -1:=by have:=hlo;rw[BB.lost,JF]at this;have:=this _ hmk;simpa using this
  have I:=(F.ar _ hmk).resolve_left hnek;generalize s.AT[k]=ek at hgk H I;have⟨ka,kb⟩:=ek;simp only at hgk H I;have hgm2:(s.r.AT.map λe=>(e.1,Zb e.2))[k]?=ae (ka,Zb kb):=by rw[hre,ED,hgk];rfl
  have wk:=wQ ((k:Int)+1);refine Ym E ?_;refine H_ E ?_
  repeat first|refine BK ?_|refine Zz ?_
  refine Zv ⟨λ_=>.bool (m.p.orthoB ka (vn:Int)),λ_=>.pure⟩ zk D zk zk ?_;refine Xc (j3 hgm2 hk2 f) ?_;refine⟨⟨zk,?_⟩,?_⟩;refine Zs ?_;exact zM (wC G D _ _ m hm ac hrl ka vn I.1 I.2 L.1 L.2 hst);cases q:m.p.orthoB ka (vn:Int);rw[hno (by rw[n,he2,DJ,V'];exact⟨k,DC.2 A,by rw[H];simp[q]⟩)]
  exact Zh q;refine Zg (zi q wk) ?_;exact x _ ⟨A,(),λj hj=>(by rcases JU.1 hj with h|rfl;exact hRk j h;rw[H];exact q),AO (zq (j3 @Vq @Zj wk)) zp⟩
 have hie:i=aa s.r.AT:=zo;rw[hie]at hRi⊢;have hso0:s.BN[0]?=ae (PM.srcOf s):=by have:=F.so;rw[PM.srcOf];cases hh:s.BN with|nil=>exact absurd hh this|cons a r=>rfl
 have hsl:=JH.2 F.so;have z:=F.IF _ (DY hso0);have hfix:=Q.fix _ z.1 z.2;have⟨sn,xs,esn,hsn,hgs,exs⟩:=m.at z.1 z.2;have Y:m.p.kd (PM.srcOf s)=xs.AD:=by rw[PM.kd,exs];rfl
 have hrg:(m.p.vx (PM.srcOf s)).region=xs.region:=by rw[exs];rfl
 have⟨fn,yf,O,hfn,hgf,eyf⟩:=m.wyAt F.first.1 F.first.2;have hkf:(m.p.wy s.first).AD=yf.AD:=by rw[eyf];rfl
 have hfx:m.p.fixB (PM.srcOf s)=(xs.AD==3||xs.AD==8||xs.AD==9):=by rw[PM.fixB,Y]
 have hef:=F.er;have hefl:=F.fl;have hyes:=fun(hl:s.lost=ab) h2 h3=>PM.right_yes (m:=m.p) (s:=s) (R:=R) (λj hj=>hRi j (by rw[PM.ends_r hl];exact hj)) h2 h3;have hno1:=λh1 h2=>PM.right_eff (m:=m.p) (s:=s) (R:=R) h1 h2;have hno2:=fun{v:Int} (hv:v∈R) h=>PM.right_reach (m:=m.p) (s:=s) (R:=R) hv h
 have hin:∀ v,m.p.inReach s v=if m.p.fixB (PM.srcOf s)=ad then m.p.withinB v xs.region else if xs.AD=1/\yf.AD=2 then m.p.inB v (PM.srcOf s)else ad:=λv=>by rw[PM.inReach,Y,hrg,hkf]
 have hund:=z;rw[Y]at hfix;generalize m.p.fixB (PM.srcOf s)=fx at hfx hno1 hyes hin;have f0:=VG hso0 hsl esn hsn hgs eSo eEf Vq Zp Zj @CB Ya;refine Ym (j4 @LM eEn W f0) ?_;refine Ym f0 ?_;refine Ym f0 ?_;refine Yt (fun(_:Unit)=>st [(2,qW (Zw c d m)),(3,qW (Kj c1 s R)),(7,sn),(8,.int .u8 xs.AD),(9,fx)] []) (λ_=>True) (λK hK=>?_) ?_;cases k3:(xs.AD==3)<;>cases k8:(xs.AD==8)<;>cases k9:(xs.AD==9)<;>(rw[k3,k8,k9]at hfx;refine Zf (j3 k3 k8 k9) ?_;exact hK _ () trivial (AO (zq (j4 @Vq @Zj esn hfx)) zp));rintro _ _;refine Yt (fun(_:Unit)=>st [(2,qW (Zw c d m)),(3,qW (Kj c1 s R)),(7,sn),(8,.int .u8 xs.AD),(9,fx)] []) (λ_=>fx=ad->m.p.forkedB s.DE=ab) (λK hK=>?_) ?_
 .cases fx with|false=>refine Z ?_;exact hK _ () (λh=>by cases h) qs|true=>refine Zf (zi Vq Zj) ?_;refine Zc D ?_ (s:=N _ _ _ s.DE zo hef);cases q:m.p.forkedB s.DE;refine Zg q ?_;exact hK _ () (λ_=>q) (AO (zq (zi @Vq @Zj)) zp);rw[hno1 rfl q];exact Zh q
 rintro _ hfe;refine Z ?_;refine Z8 [2,3,7,8,9] [] (aa R) (λi (_:Unit)=>[(10,i)]) (λ_ _=>[]) (λi _=>∀ v∈R.take i,m.p.inReach s v=ad) 0 () qz zS zp zp ?_;intro i _ hi hRr K2 x;by_cases b:i<aa R
 rotate_left;have hie:i=aa R:=zo;have u:=zV ((aa R:Int)<(aa R:Int));rw[hie,B_]at hRr;rw[hie];cases hl:s.lost;rw[hyes hl hfe hRr];exact Zq (j4 u eR hl Vq);rw[PM.right_lost hl];exact Zq (j4 u eR hl Vq);have u:=zU ((i:Int)<(aa R:Int));have B:=AY b;have hmi:=BT b;have htk:R.take (i+1)=R.take i++[R[i]]:=DO b;rw[htk]at x;generalize R[i]=r at B hmi x;have S:=hR r hmi;have hnr:=hno2 hmi;have g:=hin r;have P:=wQ ((i:Int)+1)
 have J:m.p.inReach s r=ad->∀ v∈R.take i++[r],m.p.inReach s v=ad:=λh v hv=>by rcases DX.1 hv with hv|hv;exact hRr v hv;rw[CP.1 hv];exact h
 have f:=SD eR B b hsn hgs hgf hfn O Vq Z6 Zp Zj Ya;refine Ym (j3 u eR Vq) ?_;refine H_ (j3 u eR Vq) ?_
 repeat first|refine BK ?_|refine Zz ?_
 cases fx with
 |true=>
  rw[AF rfl]at g;have hk:xs.AD=3\/xs.AD=8\/xs.AD=9:=by have:=hfx.symm;simp only[F_,CX]at this;omega
  have M:(xs.AD==1)=ab:=wE;have⟨_,g0,g1⟩:=hfix zo zo;rw[hrg]at g0 g1;refine Zv ⟨λ_=>.bool (m.p.withinB r xs.region),λ_=>.pure⟩ zk D zk zk ?_;refine Xc f ?_;refine⟨⟨zk,?_⟩,?_⟩;refine Zs ?_;exact zM (A0 G D _ _ m hm ac r xs.region S.1 S.2 g0 g1);cases q:m.p.withinB r xs.region;rw[hnr (by rw[g,q])];exact Zh q;refine Zg q ?_;refine Pr (zi M f) D ?_;refine Zf P ?_;exact x _ ⟨b,(),J (by rw[g,q]),AO (zq (j4 @Vq @Zj P O)) zp⟩
 |false=>
  rw[AA zS]at g;refine Zv ⟨λ_=>.top,λ_=>.pure⟩ zk D zk zk ?_;refine Zs ?_;by_cases k1:xs.AD=1
  rotate_left
  have M:(xs.AD==1)=ab:=by rw[FD];exact k1
  rw[AA (λh=>k1 h.1)]at g;refine Z0 ?_;refine Pr (zi M f) D ?_;refine Zf P ?_;exact x _ ⟨b,(),J g,AO (zq (j4 @Vq @Zj P O)) zp⟩;have M:(xs.AD==1)=ad:=by rw[k1];rfl
  by_cases k2:yf.AD=2
  rotate_left
  have q2:(yf.AD==2)=ab:=by rw[FD];exact k2
  rw[AA (λh=>k2 h.2)]at g;refine Z0 ?_;refine Pr (j3 M q2 f) D ?_;refine Zf P ?_;exact x _ ⟨b,(),J g,AO (zq (j4 @Vq @Zj P O)) zp⟩;have q2:(yf.AD==2)=ad:=by rw[k2];rfl
  rw[AF ⟨k1,k2⟩,esn]at g;have hun:=λc d=>Ko G D c d m hm ac r (PM.srcOf s) S.1 S.2 z.1 z.2 (by rw[Y];exact k1);rw[esn]at hun;refine Z0 ?_
  repeat first|refine BK ?_|refine Zz ?_
  refine Zv ⟨λ_=>.bool (m.p.inB r (sn:Int)),λ_=>.pure⟩ zk D zk zk ?_;refine Xc (j3 M q2 f) ?_;refine⟨⟨zk,?_⟩,?_⟩;refine Zs ?_;exact zM (hun _ _);cases q:m.p.inB r (sn:Int);rw[hnr (by rw[g,q])];exact Zh q;refine Zg (zi q P) ?_;exact x _ ⟨b,(),J (by rw[g,q]),AO (zq (j4 @Vq @Zj P O)) zp⟩
def PM.regRk(m:PM)(v s:Int)(n:Nat):Int:=(aE n).foldl (fun(a:Int) (r:Nat)=>if m.ow (r:Int)=s/\m.withinB v (r:Int)=ad then(r:Int)else a) (-1)
def yW(m:PM)(v s n):m.regRk v s (n+1)=if m.ow (n:Int)=s/\m.withinB v (n:Int)=ad then(n:Int)else m.regRk v s n:=by rw[PM.regRk,HW,KI]<;>rfl
def nB{l:iS}{s}(h:∀ y∈l,(y==s)=ab):l.contains s=ab:=by rw[NK,JF];intro y a;rw[BEq.comm,h y a];decide
def AB'(k)(l:iS):flat (l.map (V.int k))=l.map (V.int k):=by induction l with|nil=>rfl|cons x r ih=>rw[BI,flat,FY];exact BU _ ih
def G4(G)(Y:Yy G)(b c d e R m vs)(hm:m.p.Rt)(hrl:m.AU.l.length<1000000)(l)(hll:l.l.length<1000000)(hr:∀ v∈l.l,0<=v/\v<m.p.AN.length)(s:Int):Spec () G 193 [Mt b c d e m vs,Za R 1 (V.int .i64) l,s] Zm (Tp [] (l.l.map (m.p.regR · s))):=by
 refine Zo 0 67 _ func193 λX=>?_;generalize hD:Tp [] _=D;refine Z ?_;refine Z8 [0,1,2] [] (aa l.l) (λj  g=>[(7,AZ 66 g 1 ((l.l.take j).map (m.p.regR · s))),(8,j)]) (λj g=>[(66,Z9 g (V.int .i64) ((l.l.take j).map (m.p.regR · s)))]) (λj _=>Tp ((l.l.take j).map (m.p.regR · s)) ((l.l.drop j).map (m.p.regR · s))=D) 0 0 qz hD zp zp ?_;intro j g hj x L3 z;by_cases u:j<aa l.l
 rotate_left;have O:j=aa l.l:=zo;have B:=zV ((j:Int)<(aa l.l:Int));rw[O,NN]at x;rw[<- x];exact Zq B;have B:=zU ((j:Int)<(aa l.l:Int));have U:=AY u
 have H:l.l.take (j+1)=l.l.take j++[l.l[j]]:=by rw[DO u]
 have J:=FL u;have N:aa ((l.l.take j).map (m.p.regR · s))=j:=by rw[BC,CZ];omega
 obtain⟨T,S⟩:=hr l.l[j] (BT u);generalize l.l[j]=v at U H J T S;rw[J,BI,Tp]at x;rw[H,DL]at z;simp only[BI,BV]at z;generalize(l.l.take j).map (m.p.regR · s)=i at x z N⊢;have w1:=wQ ((j:Int)+1);refine Ym B ?_;refine Z1 ?_;refine Yt (fun(_:Unit)=>st [(0,Mt b c d e m vs),(1,Za R 1 (V.int .i64) l),(2,s),(7,AZ 66 g 1 i),(8,j),(9,(m.p.regR v s))] [(66,Z9 g (V.int .i64) i)]) (λ_=>True) (λK1 E=>?_) ?_
 .refine Z ?_;refine Z8 [0,1,2,7,8] [66] (aa m.AU.l) (λk  _=>[(9,(m.p.regRk v s k)),(10,k)]) (λ_ _=>[]) (λ_ _=>True) 0 () qz trivial zp zp ?_;intro k _ hk _ L4 r;by_cases o:k<aa m.AU.l
  rotate_left;have C:k=aa m.AU.l:=zo;have n:=zV ((k:Int)<(aa m.AU.l:Int))
  have:m.p.regRk v s k=m.p.regR v s:=by rw[C]<;>rfl
  rw[this];refine Zf (zi n Xu) ?_;exact E _ () trivial (AO (Vw Xu) zp);have n:=zU ((k:Int)<(aa m.AU.l:Int));have t:=AY o;generalize m.AU.l[k]=y at t;have M:=Mr t;have F:=wQ ((k:Int)+1);rw[yW,M]at r;have I:=My G Y m vs hm k v T S b.ent c.ent d.ent e.ent;generalize m.p.withinB v (k:Int)=bb at I r;refine Ym (zi n Xu) ?_;have f:=j5 t Xj Xu o Ya;cases q:(y.2==s);rw[AA (λh=>by rw[FD]at q;exact q h.1)]at r;refine Zf (j3 q F f) ?_;exact r _ ⟨o,(),AJ,AO (Vw Xu) zp⟩;have qe:=zu q;refine Zf (j4 q f U u) ?_;refine Zc Y ?_ (s:=I);cases bb;rw[AA (λh=>by cases h.2)]at r;refine Zf F ?_;exact r _ ⟨o,(),AJ,AO (Vw Xu) zp⟩;rw[AF ⟨qe,rfl⟩]at r;refine Zf F ?_;exact r _ ⟨o,(),AJ,AO (Vw Xu) zp⟩
 intro _ _;generalize m.p.regR v s=a at x z;by_cases W:0<=a
 rotate_left;have L:=zU (a<0);rw[GC W]at x;rw[<- x];exact Zq L;have L:=zV (a<0);rw[EI W,DJ]at x;refine Ym L ?_;refine Z0 ?_;refine Yt (fun(_:Unit)=>st [(0,Mt b c d e m vs),(1,Za R 1 (V.int .i64) l),(2,s),(7,AZ 66 g 1 i),(8,j),(9,a)] [(66,Z9 g (V.int .i64) i)]) (λ_=>i.contains a=ab) (λK1 E=>?_) ?_
 .refine Z ?_;refine Z8 [0,1,2,7,8,9] [66] (aa i) (λk (_:Unit)=>[(11,k)]) (λ_ _=>[]) (λk _=>∀ y∈i.take k,(y==a)=ab) 0 () qz zS zp zp ?_;intro k _ hk Q L4 r;by_cases o:k<aa i
  rotate_left;have C:k=aa i:=zo;have n:=zV ((k:Int)<(aa i:Int));rw[C,B_]at Q;refine Zf n ?_;exact E _ () (nB Q) qs;have n:=zU ((k:Int)<(aa i:Int));have t:=AY o;have F:=wQ ((k:Int)+1)
  have A:i≠[]:=by rintro rfl;exact absurd o (FH _)
  generalize i[k]=y at t;rw[Xs _ _ _ A,X2 _ _ A];rw[Xs _ _ _ A,X2 _ _ A]at r;have P:(flat (i.map (V.int .i64)))[k*1]?=ae (qI y):=by rw[AB',GV,ED,t]<;>rfl
  have f:=j6 n P o @DS @GY (EI o);cases q:(y==a);refine Zf (j3 q F f) ?_;exact r _ ⟨o,(),V3 (p:=λy=>y==a) t Q q,AO zp zp⟩;have K:i.contains a=ad:=by rw[HS,<- (show y=a by simpa using q)];exact DY t
  rw[K]at x;rw[<- x];exact Zq (zi q f)
 intro _ hc;rw[hc,PX,DJ]at x;refine Z ?_;intro g65;refine Yg (f:=V.int .i64) (l:=i) (l2:=[a]) BE rfl rfl rfl zp (Z3 zo zO) λg2=>?_;refine Zs ?_;refine Zf w1 ?_;exact z _ ⟨u,g2,x,AO zp zp⟩
def Ho(G)(A:Yy G)(b c d e j m vs)(x:m.p.Rt)(n:m.AU.l.length<1000000)(C:m.AL.l.length<1000000)(l)(E:l.l≠[])(o:l.l.length<1000000)(u:∀ v∈l.l,0<=v/\v<m.p.AN.length):Spec () G 128 [Mt b c d e m vs,Za j 1 () l] Zm (m.p.partU l.l):=by
 refine Zo 0 20 _ func128 λX=>?_;have i:m.p.partR l.l=(aE (aa m.AL.l)).any λs=>Tp [] (l.l.map (m.p.regR · (s:Int))):=by rw[PM.partR,m.nv]
 rw[<- x.FC.part_eq E u];generalize m.p.partR _=D at i⊢;refine Z ?_;refine Z8 [0,1] [] (aa m.AL.l) (λk  _=>[(5,k)]) (λ_ _=>[]) (λk _=>∀ s,s<k->Tp [] (l.l.map (m.p.regR · (s:Int)))=ab) 0 () qz (λs h=>absurd h (FH _)) zp zp ?_;intro k _ H z I r;by_cases g:k<aa m.AL.l
 rotate_left;have q:k=aa m.AL.l:=zo;have a:=zV ((k:Int)<(aa m.AL.l:Int));rw[JF.2 (λs t=>by rw[z s (by rw[q];exact DC.1 t)];decide)]at i;rw[i];exact Zq (zi a Xu);have a:=zU ((k:Int)<(aa m.AL.l:Int));have B:=wQ ((k:Int)+1);refine Ym (zi a Xu) ?_;refine Z ?_;have f:=λb c d e j=>G4 G A b c d e j m vs x n l o u (k:Int);generalize y:Tp [] (l.l.map (m.p.regR · (k:Int)))=F at f;refine Co Xu A ?_ (s:=f b.ent c.ent d.ent e.ent j.ent);cases F;refine Zf B ?_;refine r _ ⟨g,(),λs t=>?_,AO (Vw Xu) zp⟩
 by_cases h:s=k;rw[h,y];exact z s zo;rw[FX.2 ⟨k,DC.2 g,y⟩]at i;rw[i];exact Zr
def Hn(G)(E:Yy G)(b c d e m vs)(C:m.AE.l.length<1000000)(v:Int)(to:Bool):Spec () G 192 [Mt b c d e m vs,v,to] Zm (qE (Zb (m.p.wysI v to m.p.AE.length))):=by
 refine Zo 0 50 _ func192 λX=>?_;rw[m.nw];refine Z ?_;refine Wy (aa m.AE.l) (λk  g=>st [(0,Mt b c d e m vs),(1,v),(2,to),(7,AZ 48 g 1 (m.p.wysI v to k)),(8,k)] [(48,Z9 g (V.int .i64) (m.p.wysI v to k))])
  (λ_ _=>True) 0 0 qz trivial qs ?_
 intro k g D _ B a;by_cases h:k<aa m.AE.l
 rotate_left;have u:k=aa m.AE.l:=zo;subst u;have j:decide ((aa m.AE.l:Int)<(aa m.AE.l:Int))=ab:=zS;generalize m.p.wysI v to _=i;refine Y2 (λo=>o==48) [0,8] [] (l:=[(7,qE (Zb i))]) (m:=[]) ?_ trivial ?_;refine Zs ?_;exact Yp (f:=V.int .i64) rfl zp BE;exact Zq (zi j Xu);have j:=zU ((k:Int)<(aa m.AE.l:Int));have y:=AY h;have r:=PM.wysI_len (m:=m.p) v to k;generalize m.AE.l[k]=x at y;have t:=Ri y;rw[PM.wysI_succ,t]at a;have a:∀ s',(k<aa m.AE.l/\∃ x',True/\Weak ⟨X,Zm,50,0,G,none,[],.plain⟩ s' (st [(0,Mt b c d e m vs),(1,v),(2,to),(7,AZ 48 x' 1 (m.p.wysI v to k++if((to&&x.target==v)||(!to&&x.AV==v))=ad then[(k:Int)]else[])),(8,qI (k+1:Nat))] [(48,Z9 x' (V.int .i64) (m.p.wysI v to k++if((to&&x.target==v)||(!to&&x.AV==v))=ad then[(k:Int)]else[]))]))->B s':=a;generalize m.p.wysI v to k=i at a r⊢;have s:=wQ ((k:Int)+1);refine Ym (zi j Xu) ?_;refine Zf (j5 y Z6 Xu h Ya) ?_;intro F;cases to;cases q:(x.AV==v)
 have n:(((ab:Bool)&&x.target==v)||(!(ab:Bool)&&x.AV==v))=ab:=by simp[q]
 rw[n,AA zd,DW]at a;refine Zf (j3 q s Z6) ?_;exact a _ ⟨h,g,AJ,AO (Vw Xu) zp⟩;have n:(((ab:Bool)&&x.target==v)||(!(ab:Bool)&&x.AV==v))=ad:=by simp[q]
 rw[n,AF rfl]at a;refine Zf (zi q Z6) ?_;intro z;refine Yg (f:=V.int .i64) (l:=i) (l2:=[(k:Int)]) BE rfl rfl rfl zp (Z3 zo zO) λA=>?_;refine Zs ?_;refine Zf s ?_;exact a _ ⟨h,A,AJ,AO (Vw Xu) zp⟩;cases q:(x.target==v);have n:(((ad:Bool)&&x.target==v)||(!(ad:Bool)&&x.AV==v))=ab:=by simp[q]
 rw[n,AA zd,DW]at a;refine Zf (j3 q s Z6) ?_;exact a _ ⟨h,g,AJ,AO (Vw Xu) zp⟩;have n:(((ad:Bool)&&x.target==v)||(!(ad:Bool)&&x.AV==v))=ad:=by simp[q]
 rw[n,AF rfl]at a;refine Zf (zi q Z6) ?_;intro z;refine Yg (f:=V.int .i64) (l:=i) (l2:=[(k:Int)]) BE rfl rfl rfl zp (Z3 zo zO) λA=>?_;refine Zs ?_;refine Zf s ?_;exact a _ ⟨h,A,AJ,AO (Vw Xu) zp⟩
def AAc(G)(F:Yy G)(b c d e m vs)(L:m.AE.l.length<1000000)(v:Int):Spec () G 126 [Mt b c d e m vs,v,ad] Zm (qE (Zb (m.p.inc v))):=by
 rw[<- PM.wys_inc];refine Zo 0 52 _ func126 λX=>?_;have u:=λi (h:i∈m.p.wysI v ad (aa m.p.AE))=>PM.wysI_rng h;have A:=CT (PM.wysI_len (m:=m.p) v ad (aa m.p.AE)) (WN m.nw);have t:=Hn G F b.ent c.ent d.ent e.ent m vs L v ad;generalize m.p.wysI v _ _=l at u t A⊢;refine Z ?_;refine Zc F ?_ (s:=t);refine Z ?_;refine Z8 [0,2,7] [] (aa l) (λk  g=>[(8,AZ 35 g 1 ((l.take k).map λi=>(m.p.wy i).AV)),(9,k)]) (λk g=>[(35,Z9 g (V.int .i64) ((l.take k).map λi=>(m.p.wy i).AV))]) (λ_ _=>True) 0 0 qz trivial zp zp ?_;intro k g P _ Q r;by_cases a:k<aa l
 rotate_left;have C:k=aa l:=zo;subst C;have q:decide ((aa l:Int)<(aa l:Int))=ab:=zS;rw[B_];generalize(l.map λi=>(m.p.wy i).AV)=n;refine Y2 (λo=>o==35) [7,9] [] (l:=[(8,qE (Zb n))]) (m:=[]) ?_ trivial ?_;refine Zs ?_;exact Yp (f:=V.int .i64) rfl zp BE;exact Zq (zi q (@Zl Int l));have q:=zU ((k:Int)<(aa l:Int));have H:=AY a
 have z:l.take (k+1)=l.take k++[l[k]]:=by rw[DO a]
 obtain⟨K,J⟩:=u _ (BT a);obtain⟨j,x,D,M,E,y⟩:=KL K J;rw[z,DL,BI,BV,y,show x.p.AV=x.AV from rfl]at r;rw[D]at H;have B:aa ((l.take k).map λi=>(m.p.wy i).AV)=k:=by rw[BC,CZ];omega
 generalize((l.take k).map λi=>(m.p.wy i).AV)=n at r B⊢;have I:=wQ ((k:Int)+1);refine Ym (zi q (@Zl Int l)) ?_;refine Zf (@Zl Int l) ?_;refine Pr (j8 H a E M Z6 Xu (@Zl Int l) Ya) F ?_;intro N;refine Yg (f:=V.int .i64) (l:=n) (l2:=[x.AV]) BE rfl rfl rfl zp (Z3 zo zO) λO=>?_;refine Zs ?_;refine Zf I ?_;exact r _ ⟨a,O,AJ,AO (Vw Xu) zp⟩
def AAx(G)(F:Yy G)(b c d e m vs)(L:m.AE.l.length<1000000)(v:Int):Spec () G 126 [Mt b c d e m vs,v,ab] Zm (qE (Zb (m.p.out v))):=by
 rw[<- PM.wys_out];refine Zo 0 52 _ func126 λX=>?_;have u:=λi (h:i∈m.p.wysI v ab (aa m.p.AE))=>PM.wysI_rng h;have A:=CT (PM.wysI_len (m:=m.p) v ab (aa m.p.AE)) (WN m.nw);have t:=Hn G F b.ent c.ent d.ent e.ent m vs L v ab;generalize m.p.wysI v _ _=l at u t A⊢;refine Z ?_;refine Zc F ?_ (s:=t);refine Z ?_;refine Z8 [0,2,7] [] (aa l) (λk  g=>[(8,AZ 50 g 1 ((l.take k).map λi=>(m.p.wy i).target)),(9,k)]) (λk g=>[(50,Z9 g (V.int .i64) ((l.take k).map λi=>(m.p.wy i).target))]) (λ_ _=>True) 0 0 qz trivial zp zp ?_;intro k g P _ Q r;by_cases a:k<aa l
 rotate_left;have C:k=aa l:=zo;subst C;have q:decide ((aa l:Int)<(aa l:Int))=ab:=zS;rw[B_];generalize(l.map λi=>(m.p.wy i).target)=n;refine Y2 (λo=>o==50) [7,9] [] (l:=[(8,qE (Zb n))]) (m:=[]) ?_ trivial ?_;refine Zs ?_;exact Yp (f:=V.int .i64) rfl zp BE;exact Zq (zi q (@Zl Int l));have q:=zU ((k:Int)<(aa l:Int));have H:=AY a
 have z:l.take (k+1)=l.take k++[l[k]]:=by rw[DO a]
 obtain⟨K,J⟩:=u _ (BT a);obtain⟨j,x,D,M,E,y⟩:=KL K J;rw[z,DL,BI,BV,y,show x.p.target=x.target from rfl]at r;rw[D]at H;have B:aa ((l.take k).map λi=>(m.p.wy i).target)=k:=by rw[BC,CZ];omega
 generalize((l.take k).map λi=>(m.p.wy i).target)=n at r B⊢;have I:=wQ ((k:Int)+1);refine Ym (zi q (@Zl Int l)) ?_;refine Zf (@Zl Int l) ?_;refine Pr (j8 H a E M Z6 Xu (@Zl Int l) Ya) F ?_;intro N;refine Yg (f:=V.int .i64) (l:=n) (l2:=[x.target]) BE rfl rfl rfl zp (Z3 zo zO) λO=>?_;refine Zs ?_;refine Zf I ?_;exact r _ ⟨a,O,AJ,AO (Vw Xu) zp⟩
def gC(G)(e:Yy G)(s:bS)(f:s.length<100000):Spec () G 194 [s] Zm (Uy s):=by
 refine Zo 0 26 _ func194 λX=>?_;rw[Uy];refine Z ?_;refine Zn e ?_ (s:=Rq G e s f);generalize Yr s=p;have⟨l,a,q⟩:=p;simp only[encTok,encTks];refine Zs ?_;cases c:(q==0);exact Zh c;have d:(((aa l:Nat):Int)==1)=(aa l==1):=by rw[FW,CX,CX];omega
 cases b:(aa l==1);rw[b]at d;exact Zh (j3 c d (@Zl Tk l));rw[b]at d;have g:=zu b;obtain⟨t,rfl⟩:∃ t,l=[t]:=LJ.1 g;exact Zh (zi c Wd)
def Hw(G)(j:Yy G)(b c d e m vs)(s:bS)(u:s.length<=900)(r:vs.l.length<100000)(k:m.BF.l.length<1000000):Spec () G 134 [Mt b c d e m vs,s] Zm (Yq vs.l m.BF.l s):=by refine Zo 0 34 [.tmp 4] func134 λX=>?_;have f:=ig u;have g:=λc y x v=>pd G j c y x v _ vs _ f.amok r k;rw[iM]at g;have o:=qj G j s zo;rw[Yq];generalize Nd s=p at g o f;have⟨l,a,q⟩:=p;simp only at g f;generalize M1 l _ _=t at g;refine Z ?_;refine Zn j ?_ (s:=o);simp only[fu,UT,fa];refine Zs ?_;cases n:(q==0);have h:(q != 0)=ad:=zu n;exact Zq h;have h:=zu n;refine Ym h ?_;refine H_ h ?_;refine Zz ?_;refine Zv ⟨λi=>if i=10 then .tuple [qI t.1,qI t.2]else .top,λ_=>.pure⟩ zk j zk zk ?_;refine Xc @Xu ?_;refine⟨⟨zk,by refine Zs ?_;exact(g _ _ _ _).mono (by rintro _ _ rfl;rfl)⟩,?_⟩;refine Z ?_;rw[DJ]
section
def wW{α:Type}(p){l:List α}{k x}(h:l[k]?=ae x)(b:(l.take k).all p=ad)(a:p x=ad):(l.take (k+1)).all p=ad:=by rw[IZ,h,LF,b];simp[a]
def vN{α:Type}(p){l:List α}{k:Nat}{x}(h:l[k]?=ae x)(a:p x=ab):l.all p=ab:=by rw[<- SZ,ER];intro b;rw[b x (DY h)]at a;cases a
set_option maxRecDepth 10000
set_option maxHeartbeats 1000000
def wm(G)(t:Yy G)(b c d e c1 P m vs)(N:m.p.Rt)(K:EM m)(l l2:Sl Int)(A:l.l.length<1000000)(J:∀ v∈l.l,0<=v/\v<m.p.AN.length):Spec () G 129 [Mt b c d e m vs,Za c1 1 () l,Za P 1 () l2] Zm (λw _=>w=.bool (l2.l.length==1&&decide (1<l.l.length)&&(l.l.all λu=>m.p.kd u==1)&&m.p.partU l.l)):=by
 refine Zo 0 40 _ func129 λX=>?_;have S:=K.nr;have R:=K.nx;refine Z ?_;refine Z8 [0,1,2] [] (aa l.l) (λk  _=>[(7,k)]) (λ_ _=>[]) (λk _=>(l.l.take k).all (λu=>m.p.kd u==1)=ad) 0 () qz rfl zp zp ?_;intro k _ Q E T F;by_cases g:k<aa l.l
 rotate_left;have B:k=aa l.l:=zo;have a:=zV ((k:Int)<(aa l.l:Int));rw[B,B_]at E;rw[E,IX];have o:((aa l2.l:Int)==1)=(aa l2.l==1):=Ch _ 1;have y:decide ((aa l.l:Int)>=2)=decide (1<aa l.l):=EB.2 zo;cases h:(aa l2.l==1);rw[h]at o;exact Zq (zi a o);rw[h]at o;cases z:decide (1<aa l.l);rw[z]at y;exact Zq (j3 a o y);rw[z]at y;refine Zf (j3 a o y) ?_;refine Zc t ?_ (s:=Ho G t _ _ _ _ _ m vs N zo zo l (F4 z) A J);rw[DJ,DJ];exact Zr;have a:=zU ((k:Int)<(aa l.l:Int));have r:=AY g;have⟨I,H⟩:=J l.l[k] (BT g);have i:=BT g;generalize l.l[k]=u at r I H i;have L:=wQ ((k:Int)+1);have⟨j,x,O,C,D,M⟩:=EH I H
 have n:(m.p.kd u==1)=(x.AD==1):=by rw[PM.kd,M]<;>rfl
 refine Ym a ?_;have f:=j8 r g O D C Zp Xu Ya;cases q:(x.AD==1);have h:(x.AD != 1)=ad:=by rw[bne,q]<;>rfl
 rw[vN _ r (by rw[n,q]),EX,EG];refine Pr (zi h f) t ?_;exact Zr;have h:(x.AD != 1)=ab:=by rw[bne,q]<;>rfl
 refine Pr (zi h f) t ?_;refine Zf L ?_;exact F _ ⟨g,(),wW _ r E (by rw[n,q]),AO (Vw Xu) zp⟩
def A9(G)(C:Yy G)(b c d e c1 c2 m vs)(T:m.AE.l.length<1000000)(K:∀ t∈m.AE.l,t.guard.length<100000)(v:Int)(l l2:Sl Int):Spec () G 130 [Mt b c d e m vs,v,Za c1 1 () l,Za c2 1 () l2] Zm (λw _=>w=.bool (decide (0<l.l.length)&&decide (0<l2.l.length)&&decide (m.p.elses v<=1))):=by
 refine Zo 0 48 _ func130 λX=>?_;rw[<- PM.wys_els];have y:=λi (h:i∈m.p.wysI v ab (aa m.p.AE))=>PM.wysI_rng h;have I:=CT (PM.wysI_len (m:=m.p) v ab (aa m.p.AE)) (WN m.nw);have u:=Hn G C b.ent c.ent d.ent e.ent m vs T v ab;generalize m.p.wysI v _ (aa m.p.AE)=g at y u I⊢;refine Z ?_;refine Zc C ?_ (s:=u);refine Z ?_;refine Z8 [0,2,3,10] [] (aa g) (λk  _=>[(9,qI (aa ((g.take k).filter λi=>Uy (m.p.wy i).guard))),(11,k)]) (λ_ _=>[]) (λ_ _=>True) 0 () qz trivial zp zp ?_;intro k _ hk _ L3 a;by_cases o:k<aa g
 rotate_left;have z:k=aa g:=zo;have q:=zV ((k:Int)<(aa g:Int));rw[z,B_];rw[z]at q;generalize aa (g.filter λi=>Uy (m.p.wy i).guard)=n;have B:decide ((aa l.l:Int)>=1)=decide (0<aa l.l):=EB.2 zo;have D:decide ((aa l2.l:Int)>=1)=decide (0<aa l2.l):=EB.2 zo;have Y:decide ((n:Int)<=1)=decide (n<=1):=EB.2 zo;have f:=zi q (@Zl Int g);cases N:decide (0<aa l.l);rw[N]at B;exact Zq (zi f B);rw[N]at B;cases M:decide (0<aa l2.l);rw[M]at D;exact Zq (j3 f B D);rw[M]at D;exact Zq (j4 f B D Y);have q:=zU ((k:Int)<(aa g:Int));have O:=AY o
 have H:g.take (k+1)=g.take k++[g[k]]:=by rw[DO o]
 have⟨S,R⟩:=y _ (BT o);have⟨j,x,J,W,A,F⟩:=KL S R;have U:aa ((g.take k).filter λi=>Uy (m.p.wy i).guard)<=k:=CT (IJ _ _) (by rw[CZ];omega);rw[H,HH,BQ,OR,F]at a;have E:x.p.guard=x.guard:=rfl;rw[E]at a;rw[J]at O;generalize aa ((g.take k).filter λi=>Uy (m.p.wy i).guard)=n at U a⊢;have r:=gC G C x.guard (K x (DY A));generalize Uy x.guard=P at r a;have L:=wQ ((k:Int)+1);have Q:=wQ ((n:Int)+1);refine Ym (zi q (@Zl Int g)) ?_
 repeat first
  |refine Zz ?_|refine BK ?_|refine W7 rfl ?_|refine Xh rfl ?_|(refine EP ?_;simp -implicitDefEqProofs only[go_sem,seval])|(refine FO ?_;simp -implicitDefEqProofs only[go_sem,seval])
 refine Zv ⟨λi=>if i=12 then .bool P else .top,λ_=>.pure⟩ zk C zk zk ?_;refine Xc (j8 O o A W @Z6 @Xu @Zl Ya) ?_;refine⟨⟨zk,by refine Zs ?_;exact r.mono (by rintro _ _ rfl;rfl)⟩,?_⟩;cases P;rw[AA zd]at a;simp only[G_,GT,GN]at a;refine Zf L ?_;exact a _ ⟨o,(),AJ,AO (Vw Xu) zp⟩;rw[AF rfl]at a;simp only[G_,GT,CW,EE]at a;refine Zf (zi L Q) ?_;exact a _ ⟨o,(),AJ,AO (by refine Xc @Xu ?_;exact⟨rfl,rfl⟩) zp⟩
def AAN(G)(j:Yy G)(b c d e n m vs)(i:m.p.Rt)(a:m.AU.l.length<1000000)(l)(g:l.l.length<1000000)(f:∀ v∈l.l,0<=v/\v<m.p.AN.length)(s:Int)(k:0<=s):Spec () G 132 [Mt b c d e m vs,Za n 1 () l,s] Zm (Tp [] (l.l.map (m.p.regU · s))):=by refine Zo 0 11 _ func132 λX=>?_;rw[<- show l.l.map _=l.l.map (m.p.regU · s)from FQ λv h=>i.FC.regR_eq (f v h).1 (f v h).2 k];refine Z ?_;refine Zc j ?_ (s:=G4 G j _ _ _ _ _ m vs i a l g f s);exact Zr
def qZ(G)(L:Yy G)(b c d e c2 m vs)(hm:m.p.Rt)(hb:EM m)(v)(h1:v<m.AL.l.length)(z:m.p.kd v=8\/m.p.kd v=9)(l:Sl Int)(hr:∀ v∈l.l,0<=v/\v<m.p.AN.length):Spec () G 131 [Mt b c d e m vs,v,Za c2 1 () l] Zm (λw _=>w=.bool (!((m.p.vx v).region==0)&&m.p.twins v==1&&decide (l.l.length<=1)&&(l.l.length==0||m.p.withinB (l.l.headD 0) (m.p.vx v).region))):=by
 refine Zo 0 83 _ func131 λX=>?_;have b2:=hb.nx;have F:v<aa m.p.AN:=by rw[m.nv];exact h1
 have hg:=AY h1;have r:=hm.toFB.pt (v:=v) zo zo;have hx:=Rj hg;have t1:=PM.twins_one F;have O:=λi=>PM.twins_two (v:=v) (i:=i) F;rw[PM.kd]at z;rw[hx]at r t1 O z⊢;generalize m.AL.l[v]=x at hg hx r t1 O z⊢;generalize m.p.twins v=tw at t1 O⊢;have hkx:¬(x.AD=10\/x.AD=11):=by have:x.p.AD=x.AD:=rfl;omega
 have⟨_,Q,P,_⟩:=r.resolve_left (λh=>hkx h.2.2.2.2);have Q:0<=x.region:=Q;have P:x.region<aa m.p.AU:=P;have U:x.p.region=x.region:=rfl;rw[U];refine Zf (j5 hg Zp Xu h1 Ya) ?_;intro g7;refine Y2 (λo=>o==7) [0,1,2] [] (l:=[(7,qW (Y6 d x))]) (m:=[]) ?_ trivial ?_;refine Xc @Xu ?_;exact CS (v:=Y6 d x) zp zp;refine Z ?_;refine Wy (aa m.AL.l) (λk  _=>st [(0,Mt b c d e m vs),(1,v),(2,Za c2 1 () l),(7,qW (Y6 d x)),(8,k)] [])
  (λk _=>∀ i,i<k->i≠v->((m.p.vx (i:Int)).AD==x.AD&&(m.p.vx (i:Int)).region==x.region)=ab) 0 () qz (λi h=>absurd h (FH _)) qs ?_
 intro k _ hk hR L3 K;by_cases j:k<aa m.AL.l
 .have t:=zU ((k:Int)<(aa m.AL.l:Int));have B:=AY j;have T:=Rj B;generalize m.AL.l[k]=y at B T;have D:=wQ ((k:Int)+1);refine Ym (zi t Xu) ?_;refine Zf (j5 B j Zp Xu Ya) ?_;intro g9;have A:((k≠v->(y.AD==x.AD&&y.region==x.region)=ab)->∀ s,Weak ⟨X,Zm,83,0,G,none,[],.plain⟩ s (st [(0,Mt b c d e m vs),(1,v),(2,Za c2 1 () l),(7,qW (Y6 d x)),(8,qI (k+1:Nat))] [])->L3 s):=λh s hs=>by refine K s ⟨j,(),λi hi a=>?_,hs⟩;by_cases h3:i=k;rw[h3,T];exact h (by rw[<- h3];exact a);exact hR i zo a
  try clear K
  by_cases C:k=v;have M:((k:Int) != (v:Int))=ab:=by simp[C]
  refine Zf (j3 M D Zp) ?_;exact A (λh=>absurd C h) _ (AO (Vw (zi Xu @Zp)) zp);have M:((k:Int) != (v:Int))=ad:=by have:¬(k:Int)=(v:Int):=zo;simpa using this
  cases E:(y.AD==x.AD);refine Zf (j4 M E D Zp) ?_;exact A (λ_=>by rw[E]<;>rfl) _ (AO (Vw (zi Xu @Zp)) zp);cases q:(y.region==x.region);refine Zf (j5 M E q D Zp) ?_;exact A (λ_=>by rw[q,EX]) _ (AO (Vw (zi Xu @Zp)) zp);have a:(tw==1)=ab:=by have:=O k (by rw[m.nv];exact j) C (by rw[T];show(y.AD==x.AD&&y.region==x.region)=ad;rw[E,q]<;>rfl);simpa using this
  rw[a];simp only[EX,EG];exact Zq (j4 M E q Zp)
 have hke:k=aa m.AL.l:=zo;have t:=zV ((k:Int)<(aa m.AL.l:Int));have Y:tw=1:=t1 λi hi a=>hR i (by rw[m.nv]at hi;omega) a;rw[Y];have e0:((1:Nat)==1)=ad:=rfl;rw[e0,IX];have I:=hm.toFB.ow0 Q P;have⟨ri,y,f,g,n,hor⟩:=Ov Q P;rw[hor]at I;refine Ym (zi t Xu) ?_;have N:decide ((aa l.l:Int)<=1)=decide (aa l.l<=1):=EB.2 zo;have R:((aa l.l:Int)==0)=(aa l.l==0):=Ch _ 0;have a:(y.2 != -1) = !(x.region==0):=by rw[bne,I]
 cases C:(x.region==0);rotate_left
 .rw[C]at a
  repeat first
   |refine Zz ?_|refine BK ?_|refine W7 rfl ?_|refine Xh rfl ?_|(refine EP ?_;simp -implicitDefEqProofs only[go_sem,seval])|(refine FO ?_;simp -implicitDefEqProofs only[go_sem,seval])
  refine Zv ⟨λi=>.top,λ_=>.pure⟩ zk L zk zk ?_;refine Xc (j8 n f g a @Xj @Zp @Xu Ya) ?_;exact Zr
 rw[C]at a;cases q:decide (aa l.l<=1)
 .rw[q]at N
  repeat first
   |refine Zz ?_|refine BK ?_|refine W7 rfl ?_|refine Xh rfl ?_|(refine EP ?_;simp -implicitDefEqProofs only[go_sem,seval])|(refine FO ?_;simp -implicitDefEqProofs only[go_sem,seval])
  refine Zv ⟨λi=>.top,λ_=>.pure⟩ zk L zk zk ?_;refine Xc (j9 n f g a N @Xj @Zp @Xu Ya) ?_;exact Zr
 rw[q]at N;cases S:(aa l.l==0);rotate_left
 .rw[S]at R
  repeat first
   |refine Zz ?_|refine BK ?_|refine W7 rfl ?_|refine Xh rfl ?_|(refine EP ?_;simp -implicitDefEqProofs only[go_sem,seval])|(refine FO ?_;simp -implicitDefEqProofs only[go_sem,seval])
  refine Zv ⟨λi=>.top,λ_=>.pure⟩ zk L zk zk ?_;refine Xc (SC n f g a N R @Xj @Zp @Xu Ya) ?_;exact Zr
 rw[S]at R;have J:aa l.l=1:=by have:=JC q;have:aa l.l≠0:=zu S;omega
 obtain⟨w,W⟩:∃ w,l.l=[w]:=LJ.1 J;have⟨w0,D⟩:=hr w (by rw[W];exact CP.2 rfl);have hhd:l.l.headD 0=w:=by rw[W]<;>rfl
 have hg0:l.l[0]?=ae w:=by rw[W]<;>rfl
 have u:0<aa l.l:=zo;rw[hhd];have H:=λb c d e=>My G L m vs hm x.region w w0 D b c d e;generalize m.p.withinB w x.region=bb at H⊢
 repeat first
  |refine Zz ?_|refine BK ?_|refine W7 rfl ?_|refine Xh rfl ?_|(refine EP ?_;simp -implicitDefEqProofs only[go_sem,seval])|(refine FO ?_;simp -implicitDefEqProofs only[go_sem,seval])
 refine Zv ⟨λi=>if i=27 then .bool bb else .top,λ_=>.pure⟩ zk L zk zk ?_;refine Xc (VG n f g a N R hg0 u @Xj @Zp @Xu Ya) ?_;refine⟨⟨zk,by refine Zs ?_;rw[<- f];exact(H _ _ _ _).mono (by rintro _ _ rfl;rfl)⟩,?_⟩;exact Zr
end
def G2(G)(f:Yy G)(b c d e m vs)(H:m.p.Rt)(L:EM m)(ht:IQ m)(O:vs.l=m.p.vn)(r:Nat)(hr:r=2\/r=3\/r=4\/r=5\/r=6\/r=7\/r=8\/r=13)(v:Int)(h0:0<=v)(h1:v<m.p.AN.length):Spec () G 66 [Mt b c d e m vs,r,v] Zm (m.p.keep Yq Yh r v):=by
 refine Zo 0 _ _ func66 λX=>?_;have b0:=L.nv;have b1:=L.nr;have b2:=L.nx;have b3:=L.nw;have b4:=L.ne;have hvl:aa m.p.vn<=600:=by show aa (m.vars.l.map _)<=_;rw[BC];exact b0
 have P:aa vs.l<100000:=by rw[O];omega
 have R:=H.outR v;have hi:=H.incR v;have hol:=Fw m v;have hil:=kZ m v;have Q:=H.toFB.pt h0 h1;have W:=λb c d e=>AAc G f b c d e m vs zo v;have Y:=λb c d e=>AAx G f b c d e m vs zo v;obtain⟨k,x,rfl,hk,hg,N⟩:=EH h0 h1;have n:m.p.kd (k:Int)=x.AD:=by rw[PM.kd,N]<;>rfl
 refine Zf (j5 hg Zp Xu hk Ya) ?_;intro g7;refine Y2 (λo=>o==7) [0,1,2,6] [] (l:=[(7,qW (Y6 d x))]) (m:=[]) ?_ trivial ?_;refine Xc @Xu ?_;exact CS zp zp;refine Z ?_;refine Zc f ?_ (s:=W _ _ _ _);refine Z ?_;refine Zc f ?_ (s:=Y _ _ _ _);have M:=@Zl Int (m.p.inc k);have D:=@Zl Int (m.p.out k);have j:=Zp;rcases hr with rfl|rfl|rfl|rfl|rfl|rfl|rfl|rfl
 .have B:m.p.keep Yq Yh 2 k=(!(x.AD==3)||(aa (m.p.out k)==1&&m.p.withinB ((m.p.out k).headD 0) x.region&&aa (m.p.inc k)==0)):=by show m.p.k2 k=_;rw[PM.k2,n,N]<;>rfl
  rw[B];cases q:(x.AD==3);exact Zq (zi q j);refine Ym (zi q j) ?_;have A:((aa (m.p.inc k):Int)==0)=(aa (m.p.inc k)==0):=Ch _ 0;have z:((aa (m.p.out k):Int)==1)=(aa (m.p.out k)==1):=Ch _ 1;cases g:(aa (m.p.inc k)==0)
  .rw[g]at A;simp only[EX]
   repeat first
    |refine Zz ?_|refine BK ?_|refine W7 rfl ?_|refine Xh rfl ?_|(refine EP ?_;simp -implicitDefEqProofs only[go_sem,seval])|(refine FO ?_;simp -implicitDefEqProofs only[go_sem,seval])
   refine Zv ⟨λi=>.top,λ_=>.pure⟩ zk f zk zk ?_;refine Xc (zi M A) ?_;exact Zr
  rw[g]at A;cases E:(aa (m.p.out k)==1)
  .rw[E]at z;simp only[EX,EG]
   repeat first
    |refine Zz ?_|refine BK ?_|refine W7 rfl ?_|refine Xh rfl ?_|(refine EP ?_;simp -implicitDefEqProofs only[go_sem,seval])|(refine FO ?_;simp -implicitDefEqProofs only[go_sem,seval])
   refine Zv ⟨λi=>.top,λ_=>.pure⟩ zk f zk zk ?_;refine Xc (j4 M D A z) ?_;exact Zr
  rw[E]at z;obtain⟨w,F⟩:∃ w,m.p.out k=[w]:=LJ.1 (zu E);have⟨w0,U⟩:=R w (by rw[F];exact CP.2 rfl);have J:(m.p.out k).headD 0=w:=by rw[F]<;>rfl
  have K:(m.p.out k)[0]?=ae w:=by rw[F]<;>rfl
  have I:0<aa (m.p.out k):=by rw[F];exact PB _
  rw[J];have a:=λb c d e=>My G f m vs H x.region w w0 U b c d e;generalize m.p.withinB w x.region=T at a⊢
  repeat first
   |refine Zz ?_|refine BK ?_|refine W7 rfl ?_|refine Xh rfl ?_|(refine EP ?_;simp -implicitDefEqProofs only[go_sem,seval])|(refine FO ?_;simp -implicitDefEqProofs only[go_sem,seval])
  refine Zv ⟨λi=>if i=15 then .bool T else .top,λ_=>.pure⟩ zk f zk zk ?_;refine Xc (j7 M D A z K I @Zp) ?_;refine⟨⟨zk,by refine Zs ?_;exact(a _ _ _ _).mono (by rintro _ _ rfl;rfl)⟩,?_⟩;simp only[GR,CH,DJ,IX];exact Zr
 have B:m.p.keep Yq Yh 3 k=(!(x.AD==2||x.AD==12)||aa (m.p.out k)==0):=by show m.p.k3 k=_;rw[PM.k3,n]
 rw[B];have z:((aa (m.p.out k):Int)==0)=(aa (m.p.out k)==0):=Ch _ 0;cases q:(x.AD==2);cases g:(x.AD==12);exact Zq (j3 q g j);simp only[GR,CH,KG];exact Zq (j5 q g j D z);simp only[GR,CH,LA];exact Zq (j4 q j D z);have B:m.p.keep Yq Yh 4 k=(!(x.AD==6)||(aa (m.p.inc k)==1&&decide (1<aa (m.p.out k))&&m.p.partU (m.p.out k))):=by show m.p.k4 k=_;rw[PM.k4,n]
 rw[B];cases q:(x.AD==6);exact Zq (zi q j);have A:((aa (m.p.inc k):Int)==1)=(aa (m.p.inc k)==1):=Ch _ 1;have z:decide ((aa (m.p.out k):Int)>=2)=decide (1<aa (m.p.out k)):=EB.2 zo;simp only[GR,CH];cases g:(aa (m.p.inc k)==1);rw[g]at A;exact Zq (j4 q j M A);rw[g]at A;cases E:decide (1<aa (m.p.out k));rw[E]at z;exact Zq (j6 q j M A D z);rw[E]at z;refine Zf (j6 q j M A D z) ?_;refine Zc f ?_ (s:=Ho G f _ _ _ _ _ m vs H zo zo (Zb (m.p.out k)) (by rw[Zl];exact F4 E) (by rw[Zl];omega) (by rw[Zl];exact R));exact Zr;have B:m.p.keep Yq Yh 5 k=(!(x.AD==7)||(aa (m.p.out k)==1&&decide (1<aa (m.p.inc k))&&((m.p.inc k).all λu=>m.p.kd u==1)&&m.p.partU (m.p.inc k))):=by show m.p.k5 k=_;rw[PM.k5,n]
 rw[B];cases q:(x.AD==7);exact Zq (zi q j);simp only[GR,CH];refine Zf (zi q j) ?_;refine Zc f ?_ (s:=wm G f _ _ _ _ _ _ m vs H L (Zb (m.p.inc k)) (Zb (m.p.out k)) (by rw[Zl];omega) (by rw[Zl];exact hi));exact Zr;have B:m.p.keep Yq Yh 6 k=(!(x.AD==4||x.AD==5)||(decide (0<aa (m.p.inc k))&&decide (0<aa (m.p.out k))&&decide (m.p.elses k<=1))):=by show m.p.k6 k=_;rw[PM.k6,n]
 rw[B];have hgl:∀ t∈m.AE.l,aa t.guard<100000:=λt h=>by have:=ht.gu t h;omega
 have a:=λb c d e c1 S=>A9 G f b c d e c1 S m vs zo hgl k (Zb (m.p.inc k)) (Zb (m.p.out k));rw[M,D]at a;cases q:(x.AD==4);cases g:(x.AD==5);exact Zq (j3 q g j);simp only[GR,CH,KG];refine Zf (j3 q g j) ?_;refine Zc f ?_ (s:=a _ _ _ _ _ _);exact Zr;simp only[GR,CH,LA];refine Zf (zi q j) ?_;refine Zc f ?_ (s:=a _ _ _ _ _ _);exact Zr;have B:m.p.keep Yq Yh 7 k=(!(x.AD==8||x.AD==9)||(!((m.p.vx k).region==0)&&m.p.twins k==1&&decide (aa (m.p.out k)<=1)&&(aa (m.p.out k)==0||m.p.withinB ((m.p.out k).headD 0) (m.p.vx k).region))):=by show m.p.k7 k=_;rw[PM.k7,n]
 rw[B];have a:=λb c d e S h=>qZ G f b c d e S m vs H L k hk h (Zb (m.p.out k)) (by rw[Zl];exact R);rw[D,n]at a;generalize(!((m.p.vx k).region==0)&&m.p.twins k==1&&decide (aa (m.p.out k)<=1)&&(aa (m.p.out k)==0||m.p.withinB ((m.p.out k).headD 0) (m.p.vx k).region))=T at a⊢;cases q:(x.AD==8);cases g:(x.AD==9);exact Zq (j3 q g j);simp only[GR,CH,KG];refine Zf (j3 q g j) ?_;refine Zc f ?_ (s:=a _ _ _ _ _ (.inr (zu g)));exact Zr;simp only[GR,CH,LA];refine Zf (zi q j) ?_;refine Zc f ?_ (s:=a _ _ _ _ _ (.inl (zu q)));exact Zr
 .have B:m.p.keep Yq Yh 8 k=(if x.AD=11 then aa (m.p.out k)==1 && !m.p.inB ((m.p.out k).headD 0) x.of else if x.AD=10 then Tp [] ((m.p.out k).map (m.p.regU · x.of))&&decide (0<aa (m.p.out k))else ad):=by show m.p.k8 k=_;rw[PM.k8,n,N]<;>rfl
  rw[B];rw[N]at Q;by_cases y:x.AD=10;have hof:0<=x.of:=by rcases Q with h|h;exact h.1;exact absurd (.inl y) h.2.2.2
  rw[AA zo,AF y];have q:(x.AD==10)=ad:=zu y;have A:decide ((aa (m.p.out k):Int)>0)=decide (0<aa (m.p.out k)):=EB.2 zo;cases g:decide (0<aa (m.p.out k));rw[g]at A;simp only[EX];exact Zq (j4 q j D A);rw[g]at A;have a:=λb c d e S=>AAN G f b c d e S m vs H zo (Zb (m.p.out k)) (by rw[Zl];omega) (by rw[Zl];exact R) x.of hof;rw[D]at a;rw[IX];refine Zf (j4 q j D A) ?_;refine Zc f ?_ (s:=a _ _ _ _ _);exact Zr;have q:(x.AD==10)=ab:=zu y;by_cases C:x.AD=11
  rotate_left;rw[AA C,AA y];have g:(x.AD==11)=ab:=zu C;exact Zq (j3 q g j);rw[AF C];have g:(x.AD==11)=ad:=zu C;have z:((aa (m.p.out k):Int)==1)=(aa (m.p.out k)==1):=Ch _ 1;cases E:(aa (m.p.out k)==1)
  .rw[E]at z;refine Zf (j3 q g j) ?_
   repeat first
    |refine Zz ?_|refine BK ?_|refine W7 rfl ?_|refine Xh rfl ?_|(refine EP ?_;simp -implicitDefEqProofs only[go_sem,seval])|(refine FO ?_;simp -implicitDefEqProofs only[go_sem,seval])
   refine Zv ⟨λi=>.top,λ_=>.pure⟩ zk f zk zk ?_;refine Xc (zi D z) ?_;exact Zr
  rw[E]at z;obtain⟨w,F⟩:∃ w,m.p.out k=[w]:=LJ.1 (zu E);have⟨w0,U⟩:=R w (by rw[F];exact CP.2 rfl);have J:(m.p.out k).headD 0=w:=by rw[F]<;>rfl
  have K:(m.p.out k)[0]?=ae w:=by rw[F]<;>rfl
  have I:0<aa (m.p.out k):=by rw[F];exact PB _
  rw[J,DJ];have a:=λb c d e=>A7 G f m vs H x.of w w0 U b c d e;generalize m.p.inB w x.of=T at a⊢;refine Zf (j3 q g j) ?_
  repeat first
   |refine Zz ?_|refine BK ?_|refine W7 rfl ?_|refine Xh rfl ?_|(refine EP ?_;simp -implicitDefEqProofs only[go_sem,seval])|(refine FO ?_;simp -implicitDefEqProofs only[go_sem,seval])
  refine Zv ⟨λi=>if i=10 then .bool T else .top,λ_=>.pure⟩ zk f zk zk ?_;refine Xc (j5 D z K I @Zp) ?_;refine⟨⟨zk,by refine Zs ?_;exact(a _ _ _ _).mono (by rintro _ _ rfl;rfl)⟩,?_⟩;exact Zr
 have B:m.p.keep Yq Yh 13 k=(!(x.AD==1)||(Yq vs.l m.BF.l x.entry&&Yq vs.l m.BF.l x.exit)):=by show m.p.k13 Yq k=_;rw[PM.k13,n,N,PM.body,PM.body,<- O]<;>rfl
 rw[B];have⟨n1,n2⟩:=ht.en x (DY hg);cases q:(x.AD==1);exact Zq (zi q j);simp only[GR,CH];refine Zf (zi q j) ?_;refine Zc f ?_ (s:=Hw G f _ _ _ _ m vs x.entry n1 P zo);cases g:Yq vs.l m.BF.l x.entry;exact Zh g;refine Zg (zi g j) ?_;refine Zc f ?_ (s:=Hw G f _ _ _ _ m vs x.exit n2 P zo);exact Zr
def ABB(G)(r:Yy G)(c1)(s:bS)(names)(D:s.length<100000)(E:names.l.length<1000000):Spec () G 197 [s,Za c1 1 V.AB names] Zm (encRr .new (Sj s names.l)):=by
 refine Zo 0 55 _ func197 λX=>?_;have a:Sj s _=if(Yr s).2.2=0/\aa (Yr s).1=0 then([KD],0,0)
  else if(V5 s).2.2≠0 then([],(V5 s).2.1,(V5 s).2.2)
  else if(Si names.l (V5 s).1).2.2≠0\/(Si names.l (V5 s).1).1≠2 then([],0,90)else((V5 s).1,0,0):=rfl
 generalize Sj s names.l=K at a⊢;have J:=Rq G r s D;have I:=AAJ G r s D;have M:=fD D;have u:=λc c1=>iK G r c c1 (Zb (V5 s).1) names (by rw[Zl];omega) (by rw[Zl];exact M.2) E;simp only[Zl]at u;generalize Yr s=t at a J;generalize V5 s=p at a I u;have⟨l,O,B⟩:=t;have⟨L,i,e⟩:=p;simp only at a u;generalize Si names.l L=o at a u;have⟨k,j,H⟩:=o;simp only at a;refine Z1 ?_;refine Z1 ?_;refine Zn r ?_ (s:=J);refine Xc (j3 @encTok.eq_1 @encTks.eq_1 @Xn) ?_;refine Yt (fun(_:Unit)=>st [(0,s),(1,Za c1 1 V.AB names)] []) (λ_=>¬(B=0/\aa l=0)) (λP w=>?_) ?_
 .by_cases h01:B=0
  rotate_left;have n:(B==0)=ab:=zu h01;refine Ym n ?_;refine Z0 ?_;exact w _ () (λh=>h01 h.1) qs;have n:(B==0)=ad:=zu h01
  by_cases q:aa l=0;rw[AF ⟨h01,q⟩]at a;have d:(((aa l:Nat):Int)==0)=ad:=by simp[q]
  refine Ym (zi n d) ?_;refine Zi rfl (λy=>?_) (λy=>?_);refine Z1 ?_;intro F;refine BM (Z4 (λo=>o==30) (l:=[(4,encXs .new [KD]),(5,qI 0),(6,qI 0)]) (m:=[]) ?_ trivial) ?_;refine Zs ?_;exact⟨Xm (f:=Y9) (l:=[KD]) rfl zp Rc,Zd⟩;refine Z ?_;rw[a]<;>rfl;cases y;have d:(((aa l:Nat):Int)==0)=ab:=wE;refine Ym (zi n d) ?_;refine Z0 ?_;exact w _ () (λh=>q h.2) qs
 rintro _ N;rw[AA N]at a;refine Z1 ?_;refine Zn r ?_ (s:=I);refine Xc (j3 @encRr.eq_1 @encXs.eq_1 @Yu) ?_;refine Z1 ?_;by_cases A:e=0
 rotate_left;have n:(e != 0)=ad:=zu A;rw[AF A]at a;rw[n];refine Zi rfl (λx=>?_) (λx=>?_);refine Z ?_
 rw[a]<;>rfl;cases x;have n:(e != 0)=ab:=zu A;rw[AA (zu A)]at a;rw[n];refine Z1 ?_;refine GW @Yu r ?_ (s:=(u _ _));refine Xc @encO3.eq_1 ?_;refine Zz ?_;by_cases h2:H=0
 rotate_left;have d:(H != 0)=ad:=zu h2;rw[AF (.inl h2)]at a;refine Ym d ?_;refine Zi rfl (λb=>?_) (λb=>?_);refine Z ?_
 rw[a]<;>rfl;cases b;have d:(H != 0)=ab:=zu h2;by_cases z:k=2
 rotate_left;have C:(k != 2)=ad:=zu z;rw[AF (.inr z)]at a;refine Ym (zi d C) ?_;refine Zi rfl (λb=>?_) (λb=>?_);refine Z ?_
 rw[a]<;>rfl;cases b;have C:(k != 2)=ab:=zu z;rw[AA (by rintro(h|h);exact h h2;exact h z)]at a;refine Zf (zi d C) ?_;rw[a]<;>rfl
def r8{p q}(h:∀ n,p.contains n=q.contains n)(n ks):Ss p n ks=Ss q n ks:=by rw[Ss,Ss,h]
def cj{p q}(h:∀ n,p.contains n=q.contains n):∀ l i acc,GO p l i acc=GO q l i acc
 |[],_,_=>rfl|n::r,i,acc=>by rw[GO,GO,r8 h,cj h r]
def wL{p q}(h:∀ n,p.contains n=q.contains n)(s):Sj s p=Sj s q:=by
 have k:∀ l,Wq p l=Wq q l:=λl=>by rw[Wq,Wq,cj h]
 have o:∀ l,Si p l=Si q l:=λl=>by rw[Si,Si,k]
 rw[Sj,Sj,o]
def x9(l n):(Ts::l).contains n=(l++[Ts]).contains n:=by rw[FW,HS,HS,DX,BY,CP,or_comm]
def VD(names:List bS)(s:bS)(AD:Int):Bool:=
 ((AD==4||AD==5)&&Uy s)||(Yh names s==0&&(aa (Yr s).1==0||AD==1||AD==4||AD==5))
def uO(G)(k:Yy G)(b c d e m vs)(C:vs.l.length<100000)(s:bS)(x:s.length<100000)(AD):Spec () G 135 [Mt b c d e m vs,s,.int .u8 AD] Zm (λw _=>w=.bool (VD (vs.l++[Ts]) s AD)):=by
 refine Zo 0 60 _ func135 λX=>?_;rw[VD,Yh,<- wL (x9 vs.l) s];generalize a:(AD==4||AD==5)=n;refine Z1 ?_;refine Yt (fun(_:Unit)=>st [(0,Mt b c d e m vs),(1,s),(2,.int .u8 AD),(6,ab),(7,n)] []) (λ_=>True) (λH h=>?_) ?_;cases r:(AD==4);rw[r,CH]at a;refine Zf r ?_;exact h _ () trivial (AO (Vw a) zp);rw[r,LA]at a;subst a;refine Zf r ?_;exact h _ () trivial qs;intro _ _;refine Yt (fun(_:Unit)=>st [(0,Mt b c d e m vs),(1,s),(2,.int .u8 AD),(6,ab),(7,n)] []) (λ_=>(n&&Uy s)=ab) (λH h=>?_) ?_;cases n;refine Z ?_;exact h _ () rfl qs;refine Z ?_;refine Zc k ?_ (s:=gC G k s x);cases q:Uy s;refine Zg q ?_;exact h _ () (by rw[q]<;>rfl) qs;exact Zh q;intro _ B;rw[B,CH];refine Z ?_;intro D;refine Zf Xu ?_;refine⟨Z3 zo zo,λE=>?_⟩;have F:1+aa vs.l=aa (Ts::vs.l):=by rw[CW];omega
 rw[F];have j:Spec () G 197 [s,Za .old 1 V.AB (.mk ab (Ts::vs.l))] Zm (encRr .new (Sj s (Ts::vs.l))):=ABB G k .old s (.mk ab (Ts::vs.l)) x (by show aa vs.l+1<_;omega);refine Y2 (λo=>o==26) [1,2,7] [] (l:=[(8,Za .new 1 V.AB (.mk ab (Ts::vs.l)))]) (m:=[]) ?_ trivial ?_;refine Zs ?_;exact Xm (f:=V.AB) (l:=Ts::vs.l) rfl zp BE;generalize Sj s (Ts::vs.l)=p at j⊢;have⟨K,L,A⟩:=p;have i:=Rq G k s x;generalize Yr s=t at i⊢;have⟨tl,J,I⟩:=t;simp only[encTok,encTks]at i;simp only[encRr,encXs]at j;refine Z ?_;refine Zn k ?_ (s:=j);refine Zs ?_;refine Z ?_;refine Zn k ?_ (s:=i);refine Zs ?_;have f:=@Zl Tk tl;have y:((aa tl:Int)==0)=(aa tl==0):=Ch _ 0;show AW _ _ _ (Rf _ _ λw _=>w=.bool (A==0&&(aa tl==0||AD==1||AD==4||AD==5))) _;rw[Bool.or_assoc (aa tl==0||AD==1),a];cases u:(A==0);exact Zq u;cases n;rw[DZ];cases z:(AD==1);rw[DZ];exact Zq (j4 u z f y);rw[KG];exact Zq (j4 u z f y);rw[KG];exact Zq (j3 u f y)
def AC7(b c d e m vs):(Mt b c d e m vs).Im:=.view _ _ λy a=>by simp only[fj,V.cells,BY,CL,CF]at a;rcases a with rfl|rfl|rfl|rfl|rfl|rfl|rfl;exact .AB _;exact V1 PK _;exact V1 MQ _;exact V1 PK _;exact V1 (bQ d) _;exact V1 (bP d) _;exact V1 MQ _
def zf(G)(n:Yy G)(b c d e m vs)(O:m.p.Rt)(T:EM m)(ht:IQ m)(A:vs.l=m.p.vn)(r:Nat)(hr:r=9\/r=10\/r=11\/r=12\/r=14\/r=15)(t:Int)(h0:0<=t)(h1:t<m.p.AE.length):Spec () G 67 [Mt b c d e m vs,r,t] Zm (m.p.keep Yq Yh r t):=by
 refine Zo 0 _ _ func67 λX=>?_;have b0:=T.nv;have b1:=T.nr;have b2:=T.nx;have b4:=T.ne;have hvl:aa m.p.vn<=600:=by show aa (m.vars.l.map _)<=_;rw[BC];exact b0
 have M:aa vs.l<100000:=by rw[A];omega
 obtain⟨k,x,rfl,hk,S,f⟩:=KL h0 h1;have⟨⟨I,H⟩,t0,t1⟩:=O.wayAt x.p (DY (by show(m.AE.l.map _)[k]?=_;rw[ED,S]<;>rfl));have I:0<=x.AV:=I;have H:x.AV<aa m.p.AN:=H;have t0:0<=x.target:=t0;have t1:x.target<aa m.p.AN:=t1;have⟨ks,xs,C,Q,hgs,K⟩:=EH I H;have⟨kt,a,B,P,hgt,J⟩:=EH t0 t1;have D:m.p.kd x.AV=xs.AD:=by rw[PM.kd,K]<;>rfl
 have hkx:m.p.kd x.target=a.AD:=by rw[PM.kd,J]<;>rfl
 have N:=λs b c d e=>A7 G n m vs O s x.AV I H b c d e;have hsJ:=λs b c d e=>A7 G n m vs O s x.target t0 t1 b c d e;refine Zf (j5 S Z6 Xu hk Ya) ?_;intro g7;refine Y2 (λo=>o==7) [0,1,6] [] (l:=[(7,qW (Xo d x))]) (m:=[]) ?_ trivial ?_;refine Xc @Xu ?_;exact CS (v:=Xo d x) zp zp;refine Zz ?_;refine Zv ⟨λ_=>.top,λi=>if i=4 then .CO else if i=6 then .CO else if i=8 then .CO else if i=13 then .CO else if i=15 then .CO else if i=17 then .CO else .pure⟩ zk n zk zk ?_;refine Xc (SC C B hgs hgt Q P @Z6 @Zp @Xu Ya) ?_;intro g8 g9;refine BM (Z4 (λo=>o==8||o==9) (l:=[(0,Mt b c d e m vs),(1,r),(6,ab),(7,qW (Xo d x)),(8,qW (Y6 d xs)),(9,qW (Y6 d a))]) (m:=[]) ?_ trivial) ?_;refine Xc (zi @Xu @Z6) ?_;rw[<- C,<- B];exact⟨Zd,Zd,Zd,Zd,CS (v:=Y6 d xs) zp zp,CS (v:=Y6 d a) zp zp⟩
 try clear C B
 have g:=Z6;have E:=Zp;refine Ym E ?_;rcases hr with rfl|rfl|rfl|rfl|rfl|rfl
 .have u:m.p.keep Yq Yh 9 k=((aa x.C_.l==0&&x.after==0)||xs.AD==1):=by show m.p.k9 k=_;rw[PM.k9,f,<- D]<;>rfl
  rw[u];have W:((aa x.C_.l:Int)==0)=(aa x.C_.l==0):=Ch _ 0;cases q:(xs.AD==1);rotate_left;rw[KG];exact Zq q;rw[DZ];cases j:(aa x.C_.l==0);rw[j]at W;exact Zq (j3 q W g);rw[j]at W;exact Zq (j3 q W g)
 have u:m.p.keep Yq Yh 10 k=VD (vs.l++[Ts]) x.guard xs.AD:=by show m.p.k10 Yh k=_;rw[PM.k10,f,VD,A,<- D]<;>rfl
 rw[u];have hgl:=ht.gu x (DY S);refine Zf (zi g E) ?_;refine Zc n ?_ (s:=uO G n _ _ _ _ m vs M x.guard zo xs.AD);exact Zr
 .have hway:=O.SU k (by rw[m.nw];exact hk);rw[f]at hway;simp only[PM.wayB,BP,CM]at hway;have k1:1<=x.AD:=hway.1.1.1.2;have k3:x.AD<=3:=hway.1.1.2;have u:m.p.keep Yq Yh 11 k=(if x.AD=3 then x.AV==x.target&&xs.AD==1 else if x.AD=2 then xs.AD==1&&m.p.inB x.target x.AV else ad):=by show m.p.k11 k=_;rw[PM.k11,f,<- D]<;>rfl
  rw[u];by_cases U:x.AD=3;rw[AF U];have F:(x.AD==3)=ad:=zu U;cases q:(xs.AD==1);rw[EX];exact Zq (j3 q F g);rw[IX];exact Zq (j3 q F g);rw[AA U];have F:(x.AD==3)=ab:=zu U;by_cases h2:x.AD=2
  rotate_left;rw[AA h2]
  have j:(x.AD==1)=ad:=by have:x.AD=1:=zo;simpa using this
  exact Zq (j3 F j g);rw[AF h2];have j:(x.AD==1)=ab:=by have:¬x.AD=1:=zo;simpa using this
  cases q:(xs.AD==1);exact Zq (j4 F j q g);rw[DJ];refine Zf (j4 F j q g) ?_;refine Zc n ?_ (s:=hsJ x.AV _ _ _ _);exact Zr
 have u:m.p.keep Yq Yh 12 k=Yq vs.l m.BF.l x.DT:=by show m.p.k12 Yq k=_;rw[PM.k12,f,PM.body,<- A]<;>rfl
 rw[u];refine Zf g ?_;refine Zc n ?_ (s:=Hw G n _ _ _ _ m vs x.DT (ht.ef x (DY S)) M zo);exact Zr;have u:m.p.keep Yq Yh 14 k = !m.p.partU [x.AV,x.target]:=by show m.p.k14 k=_;rw[PM.k14,f]<;>rfl
 rw[u];refine Zf g ?_;intro g103;refine Zs ?_;refine EZ n [Mt b.ent c.ent d.ent e.ent m vs,Za .old 1 () (.mk ab [x.AV,x.target])] zk ⟨Xg (AC7 b c d e m vs) (w7 _ _ _ _ _ _ _),Rd.i64 (l:=[x.AV,x.target]) zp rfl,AJ⟩ ?_;refine(Ho G n _ _ _ _ .old m vs O zo zo (.mk ab [x.AV,x.target]) (by intro h;cases h) (by show 2<1000000;decide) (λv R=>?_)).mono ?_;have R:v∈[x.AV,x.target]:=R;simp only[BY,CL,CF]at R;rcases R with rfl|rfl;exact⟨I,H⟩;exact⟨t0,t1⟩;rintro _ _ rfl;refine⟨.bool _,?_⟩;refine Zs ?_;exact Zr
 .have u:m.p.keep Yq Yh 15 k=(if a.AD=10 then !(x.AV==a.of) && !m.p.inB x.AV a.of else if a.AD=11 then m.p.inB x.AV a.of && !(xs.of==a.of)else ad):=by show m.p.k15 k=_;rw[PM.k15,f];show(if m.p.kd x.target=10 then !(x.AV==(m.p.vx x.target).of) && !m.p.inB x.AV (m.p.vx x.target).of else if m.p.kd x.target=11 then m.p.inB x.AV (m.p.vx x.target).of && !((m.p.vx x.AV).of==(m.p.vx x.target).of)else ad)=_;rw[hkx,J,K]<;>rfl
  rw[u];by_cases z:a.AD=10
  .rw[AF z];have q:(a.AD==10)=ad:=zu z;cases j:(x.AV==a.of);rotate_left;have Y:(x.AV != a.of)=ab:=by rw[bne,j]<;>rfl
   exact Zq (j4 q Y g E);have Y:(x.AV != a.of)=ad:=by rw[bne,j]<;>rfl
   refine Zf (j4 q Y g E) ?_;refine Zc n ?_ (s:=N a.of _ _ _ _);exact Zr
  rw[AA z];have q:(a.AD==10)=ab:=zu z;by_cases y:a.AD=11
  rotate_left;rw[AA y];have j:(a.AD != 11)=ad:=zu y;exact Zq (j4 q j g E);rw[AF y]
  have j:(a.AD != 11)=ab:=by simp[y]
  have L:=N a.of;generalize m.p.inB x.AV a.of=bb at L⊢;refine Zf (j4 q j g E) ?_;refine Zc n ?_ (s:=L _ _ _ _);cases bb;exact Zr;rw[DJ];exact Zq (zi g E)
def py(G)(B:Yy G)(b c d e m vs)(z:m.AL.l.length<1000000)(r:Int):Spec () G 65 [Mt b c d e m vs,r] Zm (m.p.k1 r):=by
 refine Zo 0 44 _ func65 λX=>?_;have y:m.p.k1 r=(aa (m.AL.l.filter λx=>x.AD==3&&x.region==r)==1):=by show(aa ((m.AL.l.map _).filter _)==1)=_;rw[NP,BC]<;>rfl
 rw[y];refine Z ?_;refine Z8 [0,1] [] (aa m.AL.l) (λk  _=>[(5,qI (aa ((m.AL.l.take k).filter λx=>x.AD==3&&x.region==r))),(6,k)]) (λ_ _=>[]) (λ_ _=>True) 0 () qz trivial zp zp ?_;intro k _ A _ C a;by_cases g:k<aa m.AL.l;have h:=zU ((k:Int)<(aa m.AL.l:Int));have t:=AY g;have j:m.AL.l.take (k+1)=m.AL.l.take k++[m.AL.l[k]]:=by rw[DO g]
 have v:aa ((m.AL.l.take k).filter λx=>x.AD==3&&x.region==r)<=k:=CT (IJ _ _) (by rw[CZ];omega);generalize m.AL.l[k]=x at t j;rw[j,HH,BQ,OR]at a;generalize aa ((m.AL.l.take k).filter λx=>x.AD==3&&x.region==r)=n at v a;have q:=wQ ((k:Int)+1);have u:=wQ ((n:Int)+1);refine Ym (zi h Xu) ?_;have f:=j5 t g Zp Xu Ya;cases i:(x.AD==3);rw[i,EG,AA zd]at a;simp only[G_,GT,GN]at a;refine Zf (j3 i q f) ?_;exact a _ ⟨g,(),AJ,AO (Vw Xu) zp⟩;cases o:(x.region==r);rw[i,o,AA zd]at a;simp only[G_,GT,GN]at a;refine Zf (j4 i o q f) ?_;exact a _ ⟨g,(),AJ,AO (Vw Xu) zp⟩;rw[i,o,DJ,AF rfl]at a;simp only[G_,GT,CW,EE]at a;refine Zf (j5 i o q u f) ?_;exact a _ ⟨g,(),AJ,AO (by refine Xc @Xu ?_;exact ID) zp⟩;have s:k=aa m.AL.l:=zo;subst s;rw[B_];have h:decide ((aa m.AL.l:Int)<(aa m.AL.l:Int))=ab:=zS;generalize aa (m.AL.l.filter λx=>x.AD==3&&x.region==r)=n;rw[<- show((n:Int)==1)=(n==1)from Ch _ 1];exact Zq (zi h Xu)
def G3(G b c d e m vs)(k:Nat):Spec () G 33 [Mt b c d e m vs,k] Zm (m.p.places k):=by
 refine Zo 0 33 _ func33 λX=>?_;rw[PM.places,m.nv,m.nw];have f:=Xu;by_cases i:k=1;rw[AF i];have q:((k:Int)==1)=ad:=by simp[i]
 exact Zq (zi q f);rw[AA i];have q:((k:Int)==1)=ab:=(Ch k 1).trans (zu i);by_cases h2:k<=8;rw[AF (.inl h2)];have a:=zU ((k:Int)<=8);exact Zq (j3 q a f);have a:=zV ((k:Int)<=8);by_cases g:k=13;rw[AF (.inr g)];have j:((k:Int)==13)=ad:=by simp[g]
 exact Zq (j4 q a j f);rw[AA (λh=>h.elim h2 g)];have j:((k:Int)==13)=ab:=(Ch k 13).trans (zu g);exact Zq (j4 q a j f)
def z7(G)(a:Yy G)(b c d e m vs)(j:EM m)(r:m.p.Rt)(o:IQ m)(f:vs.l=m.p.vn)(k)(u:1<=k)(h2:k<=15)(t:Int)(t0:0<=t)(t1:t<m.p.places k):Spec () G 34 [Mt b c d e m vs,k,t] Zm (m.p.keep Yq Yh k t):=by
 refine Zo 0 28 _ func34 λX=>?_;have v:=j.nx;by_cases k1:k=1;subst k1;refine Z ?_;refine Zc a ?_ (s:=py G a _ _ _ _ m vs zo t);exact Zr;have q:((k:Int)==1)=ab:=(Ch k 1).trans (zu k1);by_cases k8:k<=8;have i:=zU ((k:Int)<=8);have g:m.p.places k=aa m.p.AN:=by rw[PM.places,AA k1,AF (.inl k8)]
 rw[g]at t1;refine Zf (zi q i) ?_;refine Zc a ?_ (s:=G2 G a _ _ _ _ m vs r j o f k zo t t0 t1);exact Zr;have i:=zV ((k:Int)<=8);by_cases k13:k=13;have n:((k:Int)==13)=ad:=by simp[k13]
 have g:m.p.places k=aa m.p.AN:=by rw[PM.places,AA k1,AF (.inr k13)]
 rw[g]at t1;refine Zf (j3 q i n) ?_;refine Zc a ?_ (s:=G2 G a _ _ _ _ m vs r j o f k zo t t0 t1);exact Zr;have n:((k:Int)==13)=ab:=(Ch k 13).trans (zu k13);have g:m.p.places k=aa m.p.AE:=by rw[PM.places,AA k1,AA (λh=>h.elim k8 k13)]
 rw[g]at t1;refine Zf (j3 q i n) ?_;refine Zc a ?_ (s:=zf G a _ _ _ _ m vs r j o f k zo t t0 t1);exact Zr
def ul(G)(n:Yy G)(c d m)(u:EM m)(W:m.p.Rt->IQ m):Spec () G 15 [Zw c d m] Zm (V.tuple [Za .new 2 Pg (Zb (m.p.checkW Yq Yh).1),qI (m.p.checkW Yq Yh).2]):=by
 refine Zo 0 46 _ func15 λX=>?_;rw[PM.checkW];simp only[Zj];refine Z ?_;intro g3;refine qF 1 [] [] 1 (Zw c d m) ?_;refine Zf Zj ?_;refine Zn n ?_ (s:=tk G n _ d.ent m u);have S:=PM.right_er (m:=m.p);have x:=λh=>PM.rt_of (m:=m.p) h;generalize m.p.rightP=D at S x;refine Zs ?_;by_cases h:D.2.2=0
 rotate_left;rw[AF h];have q:(D.2.2 != 0)=ad:=zu h;exact Zq q;rw[AA (λk=>k h)]
 have q:(D.2.2 != 0)=ab:=by simp[h]
 have T:m.p.Rt:=x (S.1 h);have hT:=W T;refine Zf (zi q Zj) ?_;refine Zc n ?_ (s:=wI G n c.ent d.ent m u.nv);refine Z ?_;have b1:=u.nr;have b2:=u.nx;have b3:=u.nw;have J:∀ k,m.p.places k<=1800:=λk=>by have:=m.p.places_le k;have e1:aa m.p.AU=aa m.AU.l:=rfl;have e2:=m.nv;have e3:=m.nw;omega
 refine Z8 [7] [] 16 (λr  g=>[(8,AZ 44 g 2 (m.p.badL Yq Yh (r-1))),(9,r)]) (λr g=>[(44,Z9 g Pg (m.p.badL Yq Yh (r-1)))]) (λr _=>1<=r/\aa (m.p.badL Yq Yh (r-1))<=1800*r) 1 0 zd ⟨BO _,CB _⟩ zp zp ?_;rintro r g Y ⟨I,hR⟩ L3 O;by_cases H:r<16
 rotate_left;obtain rfl:r=16:=zo;have P:m.p.badL Yq Yh (16-1)=m.p.badL Yq Yh 15:=rfl;rw[P];generalize m.p.badL Yq Yh 15=i;refine Y2 (λo=>o==44) [9] [] (l:=[(8,Za .new 2 Pg (Zb i))]) (m:=[]) ?_ trivial ?_;refine Zs ?_;exact Yp (l:=i) (f:=Pg) rfl zp Ar;exact Zr;have K:=zU ((r:Int)<=15);have U:=wQ ((r:Int)+1);have E:IntKind.u8.wrap (r:Int)=(r:Int):=bR zo zo;refine Zf K ?_;have y:∀ a,aa (m.p.badAt Yq Yh r a)<=a:=λa=>PM.badAt_len r a
 have t:(m.p.badL Yq Yh (r-1))++m.p.badAt Yq Yh r (m.p.places r)=m.p.badL Yq Yh (r+1-1):=by obtain⟨r,rfl⟩:∃ r',r=r'+1:=⟨r-1,zo⟩;rw[TM,TM,PM.badL_succ]
 have M:∀ a,m.p.badAt Yq Yh r (a+1)=m.p.badAt Yq Yh r a++(if m.p.keep Yq Yh r (a:Int)=ad then[]else[(r,(a:Int))]):=λa=>PM.badAt_succ r a;have L:=λb c d e R  h=>z7 G n b c d e m R u T hT h r I zo;have hpr:=J r;generalize m.p.badL Yq Yh (r-1)=i at hR t;refine Z8 [7,9] [] (m.p.places r) (λa  g=>[(8,AZ 44 g 2 (i++m.p.badAt Yq Yh r a)),(10,a)]) (λa g=>[(44,Z9 g Pg (i++m.p.badAt Yq Yh r a))]) (λa _=>True) 0 g qz trivial ?_ ?_ ?_;rw[show i++m.p.badAt Yq Yh r 0=i from DW _];exact zp;rw[show i++m.p.badAt Yq Yh r 0=i from DW _];exact zp;intro a g ha _ L7 j;by_cases A:a<m.p.places r
 rotate_left;have z:a=m.p.places r:=zo;have B:=zV ((a:Int)<(m.p.places r:Int));have hbp:=y (m.p.places r);rw[z]at B;rw[z,t];refine Z ?_;refine Zc n ?_ (s:=G3 G _ _ _ _ m _ r);refine Zg (zi B U) ?_;refine O _ ⟨H,g,⟨zo,?_⟩,AO zp zp⟩;rw[<- t,BQ];omega;have B:=zU ((a:Int)<(m.p.places r:Int));have Q:=wQ ((a:Int)+1);rw[M a]at j;have N:=y a;generalize m.p.badAt Yq Yh r a=bl at j N⊢;refine Z ?_;refine Zc n ?_ (s:=G3 G _ _ _ _ m _ r);refine Zg B ?_;have F:=λb c d e=>L b c d e (Zb m.p.vn) (Zl _) a (DS a) zo;refine Zc n ?_ (s:=F _ _ _ _);cases C:m.p.keep Yq Yh r (a:Int);rw[C,AA zd,<- DH]at j;refine Zf (zi C E) ?_;intro g43;refine Yg (f:=Pg) (l:=i++bl) (l2:=[(r,(a:Int))]) Ar rfl rfl rfl zp (Z3 zo (by simp only[BQ,CW,GT];omega)) λg2=>?_;refine Zs ?_;refine Zf Q ?_;exact j _ ⟨A,g2,AJ,AO zp zp⟩;rw[C,AF rfl,DW]at j;refine Zf (zi C Q) ?_;exact j _ ⟨A,g,AJ,AO zp zp⟩
def Qb(c:AH)(q:BB×iS):V:=Kj c q.1 q.2
@[go_sem] def AEO(g c c1 s):(Za c 7 (Qb c1) s).recol g=Za (g c) 7 (Qb (g c1)) s:=Xz (f':=Qb _) g c 7 (λq=>AAo g c1 q.1 q.2) s
def ACd(c s R):(Kj c s R).cells=[Za c 1 () (Zb s.BN),s.first,Za c 1 () (Zb s.DU),Za c 1 () (Zb s.DE),Za c 2 (V6 c) (Zb (s.r.AT.map λe=>(e.1,Zb e.2))),Za c 1 () (Zb R),s.lost]:=rfl
def uP(G)(D:Yy G)(c d m)(hb:EM m)(ht:m.p.Rt->IQ m):Spec () G 6 [Zw c d m] Zm (V.tuple [Za .new 7 (Qb .new) (Zb (m.p.statP Yq Yh).1),qI (m.p.statP Yq Yh).2.1,qI (m.p.statP Yq Yh).2.2]):=by
 refine Zo 0 67 _ func6 λX=>?_;refine Zf Zj ?_;intro g1;refine BM (Z4 (λo=>o==1) (l:=[(1,qW (Zw c d m))]) (m:=[]) ?_ trivial) ?_;simp -implicitDefEqProofs only[go_sem,seval];exact CS zp (by rw[Zj];exact zp);refine Zf Zj ?_;refine Zc D ?_ (s:=ul G D _ d.ent m hb ht);rw[PM.statP];generalize B:m.p.checkW Yq Yh=ck;obtain⟨fs,er⟩:=ck;by_cases h1:er≠0;rw[AF h1];have q1:(er != 0)=ad:=zu h1;exact Zh q1;rw[AA h1];obtain rfl:er=0:=VZ.1 h1;by_cases h2:fs≠[];rw[AF h2];have q2:decide ((aa fs:Int)>0)=ad:=by have:=JH.2 h2;rw[CM];omega
 have q3:aa (Zb fs).l=aa fs:=by rw[Zl]
 exact Zh (zi q2 q3);rw[AA h2];obtain rfl:fs=[]:=VZ.1 h2;have hr:m.p.rightP.2.2=0:=by by_cases q:m.p.rightP.2.2=0;exact q;rw[PM.checkW,AF q]at B;exact absurd (BU Prod.snd B) q
 have hbd:m.p.badL Yq Yh 15=[]:=by rw[PM.checkW,AA (by rw[hr];simp)]at B;exact BU Prod.fst B
 have rt:=PM.rt_of (PM.right_er.1 hr);have EV:=rt.EV hbd;have hnw:=m.nw;have hlw:=EV.lw;refine Zg Zj ?_;intro g7;refine BM (Z4 (λo=>o==7) (l:=[(1,qW (Zw c d m)),(7,qW (Zw c d m))]) (m:=[]) ?_ trivial) ?_;simp -implicitDefEqProofs only[go_sem,seval,Zj];exact⟨Zd,CS (v:=Zw c d m) zp (by rw[Zj];exact zp)⟩;refine Z ?_;refine Z8 [1,7] [] (aa m.AE.l) (λt (x:List BB×Nat)=>[(8,AZ 37 x.2 7 (x.1.map BB.r)),(9,t)]) (λt x=>[(37,Z9 x.2 (X8 .new) (x.1.map BB.r))]) (λt x=>x.1=(aE t).flatMap (fun(i:Nat)=>m.p.beginL i)/\aa x.1<=4096) 0 ([],0) qz ⟨rfl,zd⟩ zp zp ?_;rintro t ⟨l,g⟩ ht' ⟨U,y⟩ L1 hL1;replace U:l=(aE t).flatMap (fun(i:Nat)=>m.p.beginL i):=U;replace y:aa l<=4096:=y;by_cases ht1:t<aa m.AE.l;have b:=zU ((t:Int)<(aa m.AE.l:Int));have P:(aE (t+1)).flatMap (fun(i:Nat)=>m.p.beginL i)=l++m.p.beginL t:=by rw[HW,HU,<- U,FY,NQ,DW]
 have T:4096<aa (l++m.p.beginL t)->4096<aa m.p.allL:=λh=>by
  have e1:aa m.p.AE=(t+1)+(aa m.p.AE-(t+1)):=by rw[m.nw];omega
  rw[PM.allL,e1,WH,HU,BQ,P];omega
 have hbs:=AAp G D c.ent d.ent m EV t zo (by rw[m.nw];omega) 4096 zd;obtain⟨K,hbl⟩:=PM.begT_ok EV 4096 (t:=(t:Int)) zo (by rw[m.nw];omega);generalize m.p.begT 4096 (t:Int)=bt at hbs K hbl;have eB:(Zb bt).l=bt:=Zl _;have wt:=wQ ((t:Int)+1);refine Zf (zi b Zj) ?_;refine Zc D ?_ (s:=hbs);refine Zs ?_;refine Yg (f:=X8 .new) (l:=l.map BB.r) (l2:=bt) BE rfl rfl rfl zp (Z3 zo (by rw[BC];omega)) λg2=>?_;refine Zs ?_;by_cases M:4096<aa (l.map BB.r++bt);have q4:decide ((aa (l.map BB.r++bt):Int)>4096)=ad:=by rw[CM];omega
 rw[AF (T (by rw[BQ]at M⊢;rw[BC]at M;rcases K with e|e;rw[e,BC]at M;exact M;have:=e.2;rw[BC]at this;omega))]
 exact Zq q4;have hex:bt=(m.p.beginL t).map BB.r:=by rcases K with e|e;exact e;rw[BQ]at M;omega
 have hmm:l.map BB.r++bt=(l++m.p.beginL t).map BB.r:=by rw[hex,DL]
 rw[hmm]at M⊢;rw[BC]at M;have q4:=zV ((aa (l++m.p.beginL t):Int)>4096);have e4:aa ((l++m.p.beginL t).map BB.r)=aa (l++m.p.beginL t):=BC ..;generalize hl2:l++m.p.beginL t=l2 at *;refine Zf (j3 e4 q4 wt) ?_;exact hL1 _ ⟨ht1,(l2,g2),⟨P.symm,by show aa l2<=4096;omega⟩,AO (zq (zi @Zj wt)) zp⟩;have O:t=aa m.AE.l:=zo;have hA:l=m.p.allL:=by rw[U,O,PM.allL,m.nw]
 clear U;subst hA;rw[O,AA (PA.2 y)];have b:=zV ((aa m.AE.l:Int)<(aa m.AE.l:Int));refine BM (Z4 (λo=>o==37) (l:=[(1,qW (Zw c d m)),(7,qW (Zw c d m)),(8,Za .new 7 (X8 .new) (Zb (m.p.allL.map BB.r))),(9,aa m.AE.l)]) (m:=[]) ?_ trivial) ?_;simp -implicitDefEqProofs only[go_sem,seval];exact⟨Zd,Zd,Yp (l:=m.p.allL.map BB.r) (f:=X8 .new) rfl zp BE,Zd⟩;refine Zf (zi b Zj) ?_;have eA:(Zb (m.p.allL.map BB.r)).l=m.p.allL.map BB.r:=Zl _;have N:aa (m.p.allL.map BB.r)=aa m.p.allL:=BC ..;refine Z8 [1,7,8] [] (aa m.p.allL) (λi (g:Nat)=>[(10,AZ 65 g 7 (m.p.withR.take i)),(11,i)]) (λi g=>[(65,Z9 g (Qb .new) (m.p.withR.take i))]) (λi _=>∀ q∈m.p.withR.take i,(!m.p.rightS q.1 q.2)=ab) 0 0 qz zS (zq @Zj) zp ?_;intro i g hi j K1 C;have n:=P3 m.p;by_cases z:i<aa m.p.allL
 rotate_left;have W:i=aa m.p.allL:=zo;have b:=zV ((aa m.p.allL:Int)<(aa m.p.allL:Int));rw[W,<- n,B_]at j
 have A:m.p.withR.find? (λp => !m.p.rightS p.1 p.2)=none:=MG.2 λq hq=>by rw[j q hq];simp
 rw[A,W,<- n,B_,n];refine BM (Z4 (λo=>o==65) (l:=[(8,Za .new 7 (X8 .new) (Zb (m.p.allL.map BB.r))),(10,Za .new 7 (Qb .new) (Zb m.p.withR)),(11,aa m.p.allL)]) (m:=[]) ?_ trivial) ?_;simp -implicitDefEqProofs only[go_sem,seval];exact⟨Zd,Yp (l:=m.p.withR) (f:=Qb .new) rfl zp BE,Zd⟩;exact Zq (j3 b eA N);have b:=zU ((i:Int)<(aa m.p.allL:Int));have L:=AY z;have u:=BT z;generalize m.p.allL[i]=s at L u;have F:=m.p.allL_ok EV s u;have Y:m.p.withR[i]?=ae (s,m.p.reachL m.p.allL s):=by rw[PM.withR,ED,L];rfl
 have htk:m.p.withR.take (i+1)=m.p.withR.take i++[(s,m.p.reachL m.p.allL s)]:=PM.take_at Y;have hgr:(m.p.allL.map BB.r)[i]?=ae s.r:=by rw[ED,L];rfl
 have wi:=wQ ((i:Int)+1);have hat:=λs hs=>PM.DM.atok EV s hs;have H:∀ x∈m.p.allL,aa x.AT<=1000:=λx k=>by have:=(m.p.allL_ok EV x k).el;omega
 have J:=λc d c1 c2 c3=>uk G D c d c1 c2 c3 m EV m.p.allL y s (hat s u) (H s u) hat (λx k=>⟨(m.p.allL_ok EV x k).so,H x k⟩) (λx k=>(m.p.allL_ok EV x k).IF _ (PM.headD_mem (m.p.allL_ok EV x k).so)) (λx k=>(m.p.allL_ok EV x k).one);have hRl:aa (m.p.reachL m.p.allL s)<1000000:=by rw[PM.reachL,BC];have:=IJ (fun(v:Nat)=>(m.p.reachQ m.p.allL s).contains (v:Int)) (aE (aa m.p.AN));rw[HV]at this;have:=EV.lx;omega
 have I:=λc d c1=>uN G D c d c1 m rt.toFB EV (by have:=hb.nr;omega) s F (m.p.reachL m.p.allL s) hRl (m.p.reachL_rng m.p.allL s);have S:aa (m.p.withR.take i)=i:=by rw[CZ,n];omega
 rw[htk]at C;have A:m.p.rightS s (m.p.reachL m.p.allL s)=ab->m.p.withR.find? (λp => !m.p.rightS p.1 p.2)=ae (s,m.p.reachL m.p.allL s):=λh=>by have e:m.p.withR=m.p.withR.take i++m.p.withR.drop i:=(HX i _).symm;rw[e,List.find?_append,MG.2 (λq hq=>by rw[j q hq];simp),PM.drop_at Y,Option.none_or,cC (by rw[h];rfl)]
 generalize m.p.reachL m.p.allL s=R at C J I A;generalize m.p.withR.take i=a at C j S⊢;refine Ym (j3 b eA N) ?_;refine Ym (j6 eA N hgr z Uf Ya) ?_;intro E;refine BM (AO (l:=[(1,qW (Zw c d m)),(7,qW (Zw c d m)),(8,Za .new 7 (X8 .new) (Zb (m.p.allL.map BB.r))),(11,i),(12,.ptr 12 E 0),(10,AZ 65 g 7 a)]) (m:=[(12,qC E 0 (X8 .new s.r).cells),(65,Z9 g (Qb .new) a)]) (zq @Zj) (zp)) ?_;refine Zf (zi lE Zj) ?_;refine Zc D ?_ (s:=J _ _ _ _ _);refine Zs ?_;refine BM (Z4 (λ_=>ab) (l:=[(1,qW (Zw c d m)),(7,qW (Zw c d m)),(8,Za .new 7 (X8 .new) (Zb (m.p.allL.map BB.r))),(11,i),(12,.ptr 12 E 0),(10,AZ 65 g 7 a)]) (m:=[(12,qC E 0 (Kj .new s R).cells),(65,Z9 g (Qb .new) a)]) ?_ ?_) ?_;simp -implicitDefEqProofs only[go_sem,seval,Zj];exact⟨Zd,Zd,Zd,Zd,Zd,Zd⟩;simp only[Z2,Z5,CE];exact⟨D_ (cs:=[qE (Zb s.r.BN),s.r.first,qE (Zb s.r.DU),qE (Zb s.r.DE),Za .new 2 (V6 .new) (Zb (s.r.AT.map λe=>(e.1,Zb e.2))),qE (Zb R),s.r.EC]) rfl zp ⟨Zd,Zd,Zd,Zd,Zd,Zd,Zd,AJ⟩,DR rfl⟩;refine Zf (zi ACd Zj) ?_;refine Zc D ?_ (s:=I _ _ _);cases q:m.p.rightS s R;rw[A q];refine Zg q ?_;refine Zv ⟨λ_=>qI s.first,λ_=>.pure⟩ zk D zk zk ?_;refine Zs ?_;exact Zr;refine Zg q ?_;intro g64;refine Yg (f:=Qb .new) (l:=a) (l2:=[(s,R)]) BE rfl rfl rfl zp (Z3 zo zO) λg2=>?_;refine Zs ?_;refine Zf wi ?_;exact C _ ⟨z,g2,λp Q=>(by rcases DX.1 Q with Q|Q;exact j p Q;rw[CP.1 Q];simp[q]),AO (zq (zi @Zj wi)) zp⟩
def ABh{P E ops Q rest τ H α f m bytes}(d:∀ x,(f x).cells.length=m){e o g}{l l2:List α}{xc n}(c:l≠[])(p:n=l2.length)(j:xc=flat (l2.map f)){ob}(b:ob=KC H (AZ o g m l))(i:H o=Z9 g f l)(k:Tg bytes (l.length+l2.length))(h:∀ g2,Yx P E ops Q rest ⟨Ye τ e (AZ o g2 m (l++l2)),Ye H o (Z9 g2 f (l++l2))⟩):B7 P E ops Q rest e τ H m bytes (AZ o g m l) (ae (n,xc)) ob:=by
 subst b p j;have a:l++l2≠[]:=λq=>c (OP.1 q).1;rw[Xs _ _ _ c]at *;rw[X2 _ _ c]at i;rw[Fy,i,dB];refine⟨rfl,k,rfl,by rw[Ww d];omega,zo,λg2=>?_⟩;have:=h g2;rw[Xs _ _ _ a,X2 _ _ a]at this;have r:((flat (List.map f l)).drop 0).take (aa l*m)=flat (List.map f l):=by rw[HB,<- Ww d,B_]
 rw[r,<- T0,<- DL];rwa [BQ]at this
section
variable{P:Program}{E:BX}
def Ur(k:IntKind)(M:Nat):Sh:=.row ab 1 M (λ_=>.int k)
def P5{k M s}(h:s.l.length<=M){c c'}:Gq c c' (Ur k M) (Za c 1 (V.int k) s):=by
 rcases s with _|⟨b,l⟩;exact .inl rfl;refine .inr ⟨b,l.map _,rfl,by rw[BC];exact h,?_⟩;intro u a;obtain⟨n,_,rfl⟩:=CY.1 a;refine⟨rfl,rfl,λi d=>?_⟩;have:i=0:=by simp[V.cells]at d;omega
 subst this;exact⟨n,rfl⟩
def P4{c c' k M v}(h:Gq c c' (Ur k M) v):∃ s,v=Za c 1 (V.int k) s/\s.l.length<=M:=by
 rcases h with rfl|⟨e,l,rfl,b,d⟩;exact⟨.nil,rfl,CB _⟩;have:∃ a:List _,l=a.map (V.int k):=by
  clear b
  induction l with
  |nil=>simp|cons u r ih=>
   obtain⟨a,rfl⟩:=ih λx j=>d x zG;have⟨i,h2,g⟩:=d u zS;have⟨n,m⟩:=g 0 zo;refine⟨n::a,?_⟩;have f:u.cells=[.int k n]:=by match hq:u.cells,i with|[y],_=>grind
   rw[h2,f];rfl
 obtain⟨a,rfl⟩:=this;exact⟨.mk _ a,rfl,by rw[BC]at b;exact b⟩
