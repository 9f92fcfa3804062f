/- A part. No condition. -/
import Derived.Test.YtkennpiglkfalaaGreatDoorP34
import Derived.Test.YtkennpiglkfalaaGreatDoorP35
set_option linter.all false
open List renaming length->aa
open Bool renaming false->ab,true->ad
open Option renaming some->ae
open Go.Proofs.Tryz
open List renaming range->aE
section
namespace Go.Hs
open Go.Proofs
set_option maxHeartbeats 1000000
set_option maxRecDepth 10000
structure EM(m:BR):Prop where
 nm:aa m.name<1000000000000000
 var:∀ p∈m.vars.l,aa p.1<1000000000000000
 ev:∀ s∈m.BF.l,aa s<1000000000000000
 rg:∀ p∈m.AU.l,aa p.1<1000000000000000
 vt:∀ x∈m.AL.l,aa x.name<1000000000000000/\aa x.sub<1000000000000000/\aa x.defers.l<1000000
 wy:∀ t∈m.AE.l,aa t.name<1000000000000000/\aa t.C_.l<1000000
 nv:aa m.vars.l<=600
 ne:aa m.BF.l<=600
 nr:aa m.AU.l<=600
 nx:aa m.AL.l<=600
 nw:aa m.AE.l<=600
def Rb(G)(a:CR G)(s:bS)(b:s.length<1000000000000000):Spec () G 147 [s] Zm (V0 s):=by have c:=a.ok;refine Zo 0 10 [.tmp 2] func147 λX=>?_;rw[V0];cases h:(s==[]);refine Zf h ?_;refine Zc c ?_ (s:=Pb G a s b);refine Z ?_;rw[CH,show((Tc s:Int)==2)=(Tc s==2)from by rw[FW,CX,CX];omega];exact Zq h
def Jk(G c d m)(v:Int):Spec () G 148 [Zw c d m,v] Zm (m.p.stateB v):=by refine Zo 0 23 [.tmp 4] func148 λX=>?_;simp only[Zj];refine Z1 ?_;intro j;rw[PM.stateB];by_cases f:0<=v;by_cases b:v<aa m.p.AN;obtain⟨k,x,rfl,h,i,g⟩:=EH f b;rw[g,EI f,EI b,DJ,DJ];have a:=zU ((k:Int)>=0);have e:=zU ((k:Int)<(aa m.AL.l:Int));refine Zf (j7 i h Zp @DS @GY a e) ?_;rfl;have a:=zU (v>=0);have e:decide (v<(aa m.AL.l:Int))=ab:=GC (by rw[<- m.nv];exact b);rw[GC b,EX,EG];exact Zq (zi a e);have a:=zV (v>=0);rw[GC f,EG,EG];exact Zq a
def Cg{ev l}:HJ ev l=ad↔∀ i s,l[i]?=ae s->ev.contains s=ad/\(l.take i).contains s=ab:=by rw[HJ,ER];constructor;intro h i s d;have c:i<aa l:=(DG.1 d).1;have:=h i (DC.2 c);rw[DK,d]at this;simpa using this;intro h i c;have c:=DC.1 c;have⟨a,b⟩:=h i _ (AY c);rw[DK,AY c];show(ev.contains l[i] && !(l.take i).contains l[i])=ad;rw[a,b]<;>rfl
def Nj{α}(s:Sl α)(k):(s.sub 0 k).l=s.l.take k:=by rcases s with _|⟨b,l⟩;simp[Sl.sub,Sl.l];simp[Sl.sub,Sl.l]
def Lo(G)(j:Yy G)(c d c1 m l)(u:m.BF.l.length<1000000)(z:l.l.length<1000000):Spec () G 152 [Zw c d m,Za c1 1 V.AB l] Zm (HJ m.BF.l l.l):=by
 refine Zo 0 27 [.tmp 4] func152 λX=>?_;simp only[Zj];refine Z ?_;intro C;refine qF 2 [1,4] [] 2 (Zw c d m) ?_;simp only[Zj];refine Z ?_;refine Z8 [1,2,7,8] [] (aa l.l) (λk (_:Unit)=>[(9,k)]) (λ_ _=>[]) (λk _=>∀ i s,i<k->l.l[i]?=ae s->m.BF.l.contains s=ad/\(l.l.take i).contains s=ab) 0 () qz (λi s h=>absurd h (FH _)) (Vw Zj) zp ?_;intro k _ A q D p;by_cases b:k<aa l.l
 .have a:=zU ((k:Int)<(aa l.l:Int));have f:=AY b;generalize l.l[k]=x at f;have t:=wQ ((k:Int)+1);refine Zf (j3 a f Zj) ?_;refine Zc j ?_ (s:=Tx G j _ x m.BF u);cases r:m.BF.l.contains x;refine Zs ?_;refine Z ?_;have:HJ m.BF.l l.l=ab:=by rw[FV];intro h;have:=(Cg.1 h k x f).1;rw[r]at this;cases this
  rw[this];refine Zs ?_;refine Xc (zi (CB k) (LL b)) ?_;have g:=Tx G j c1.ent x (l.sub 0 k) (by rw[Nj];simp;omega);rw[Nj]at g;refine Zc j ?_ (s:=g);cases h2:(l.l.take k).contains x;refine Zf t ?_;refine p _ ⟨b,(),λi s B e=>?_,AO (Vw Zj) zp⟩;by_cases y:i=k;subst y;rw[f]at e;obtain rfl:=EY e;exact⟨r,h2⟩;exact q i s zo e;refine Z ?_;have:HJ m.BF.l l.l=ab:=by rw[FV];intro h;have:=(Cg.1 h k x f).2;rw[h2]at this;cases this
  rw[this]
 have n:k=aa l.l:=zo;subst n;have a:decide ((aa l.l:Int)<(aa l.l:Int))=ab:=zS;refine Zf a ?_;rw[Cg.2 λi s e=>q i s (DG.1 e).1 e]
def AA2(G)(j:Yy G)(c d e m x):Spec () G 151 [Zw c d m,Y6 e x] Zm (m.p.liesB x.p):=by refine Zo 0 38 [.tmp 4] func151 λX=>?_;simp only[Zj,Zp];refine Z ?_;intro o n;rw[PM.liesB];cases a:(x.AD==10);have i:¬x.AD=10:=zu a;cases b:(x.AD==11);have g:¬x.AD=11:=zu b;rw[AA (show ¬(x.p.AD=10\/x.p.AD=11)from λh=>h.elim i g)];show AW _ _ _ (Rf _ _ λw _=>w=.bool ((x.of == -1)&&decide (0<=x.region)&&decide (x.region<aa m.AU.l))) _;have f:=j3 a b Zp;cases h2:(x.of == -1);exact Zq (zi f h2);by_cases k:0<=x.region;have q:=zU (x.region>=0);rw[EI k];exact Zq (j3 f h2 q);have q:=zV (x.region>=0);rw[GC k];exact Zq (j3 f h2 q);have g:x.AD=11:=zu b;rw[AF (show x.p.AD=10\/x.p.AD=11 from .inr g)];show AW _ _ _ (Rf _ _ λw _=>w=.bool ((x.region == -1)&&m.p.stateB x.of)) _;cases h2:(x.region == -1);exact Zq (j3 (zi a b) Zp h2);refine Zf (j3 (zi a b) Zp h2) ?_;refine Zc j ?_ (s:=Jk G c.ent d.ent m x.of);refine Z ?_;rw[DJ];have i:x.AD=10:=zu a;rw[AF (show x.p.AD=10\/x.p.AD=11 from .inl i)];show AW _ _ _ (Rf _ _ λw _=>w=.bool ((x.region == -1)&&m.p.stateB x.of)) _;cases h2:(x.region == -1);exact Zq (j3 a Zp h2);refine Zf (j3 a Zp h2) ?_;refine Zc j ?_ (s:=Jk G c.ent d.ent m x.of);refine Z ?_;rw[DJ]
def qA(G)(g:Yy G)(c d m)(j:m.p.FB)(v:Int)(x:0<=v)(u:v<m.p.AN.length):Spec () G 154 [Zw c d m,v] Zm (m.p.depth v):=by
 refine Zo 0 21 [.tmp 4] func154 λX=>?_;simp only[Zj];refine Z ?_;intro C;refine qF 2 [1] [] 2 (Zw c d m) ?_;simp only[Zj];refine Z ?_;refine Zc g ?_ (s:=F6 G g c.ent d.ent m j v x u);refine Z ?_;refine Xw [2] [] (fun(y:Nat×Int)=>[(1,(m.p.around y.2)),(5,qI y.1)]) (λ_=>[]) (λy=>y.1<=65/\0<=y.2/\y.2<aa m.p.AN/\m.p.depth v=y.1+aa (m.p.upsF (65-y.1) y.2)) (λy=>65-y.1) (0,v) ⟨CB _,x,u,by rw[EE]<;>rfl⟩ (Vw Zj) zp ?_;rintro⟨n,w⟩ ⟨A,w0,r,e⟩ D k;simp only at A w0 r e;by_cases t:0<=m.p.around w;have b:=zU (m.p.around w>=0);by_cases z:n<=64;have i:=zU ((n:Int)<=64);have B:=wQ ((n:Int)+1);have a:m.p.around w<aa m.p.AN:=by rcases j.DA w0 r with q|q;omega;exact q.2
 refine Zf (j4 b i B Zj) ?_;refine Zc g ?_ (s:=F6 G g c.ent d.ent m j (m.p.around w) t a);refine Z ?_;refine k _ ⟨(n+1,m.p.around w),by show 65-(n+1)<65-n;omega,⟨by show n+1<=65;omega,t,a,?_⟩,AO (Vw Zj) zp⟩;show m.p.depth v=n+1+aa (m.p.upsF (65-(n+1)) (m.p.around w));rw[e,show 65-n=(65-(n+1))+1 by omega,PM.upsF,AA zo,CW];omega;have i:=zV ((n:Int)<=64);refine Zf (zi b i) ?_;rw[e,show 65-n=0 by omega]<;>rfl;have b:=zV (m.p.around w>=0);refine Zf b ?_;have:m.p.upsF (65-n) w=[]:=by rcases h:65-n with _|f;rfl;rw[PM.upsF,AF zo]
 rw[e,this]<;>rfl
def T1(r:Nat×Int×Int):V:=.agg [.int .u8 r.1,qI r.2.1,qI r.2.2]
structure P_{α:Type}(G:Nat->V)(f:FuncId)(cap:List V)(enc:α->V)(l:List α)(p:Nat->Bool):Prop where
 en:Yf Tryz.prog f=ad
 rc:cap.map (V.recol AH.ent)=cap
 sp:∀ (i:Nat) (x:α),l[i]?=ae x->Spec Tryz.prog G f (.int .i64 i::enc x::cap) Zm (λv _=>v=.bool (p i))
def l8(G)(u:Yy G)(c)(part most:Nat)(s)(z:s.l.length<1000000){f cap p}(n:P_ G f cap Yw s.l p):Spec () G 138 [.int .u8 part,Za c 2 Yw s,most,.func (.func f) [] cap] Zm (T1 (Wc part most p s.l.length)):=by
  refine Zo 0 36 [.cell 8 151] func138 λX=>?_;refine Z ?_;intro C;refine Z ?_;refine Z8 [0,1,2,3,8,11,12] [8] (aa s.l) (λk (_:Unit)=>[(13,k)]) (λ_ _=>[]) (λk _=>∀ i,i<k->i≠most/\p i=ad) 0 () qz (λi h=>absurd h (FH _)) zp zp ?_;intro k _ A g D o;by_cases a:k<aa s.l;have b:=zU ((k:Int)<(aa s.l:Int));have m:=AY a;generalize s.l[k]=x at m;have t:=wQ ((k:Int)+1);refine Zf (j3 b m Xj) ?_;intro y;by_cases d:k=most;have q:((k:Int)==(most:Int))=ad:=by simp[d]
  rw[Vs a g (.inl d),AF d,d];exact Zh q
  .have q:((k:Int)==(most:Int))=ab:=by have:¬(k:Int)=(most:Int):=zo;simpa using this
   refine Zg q ?_;refine Co n.rc u ?_ (e:=n.en) (s:=n.sp k x m);cases r:p k;rw[Vs a g (.inr r),AA d];exact Zr;refine Zf t ?_;refine o _ ⟨a,(),λi B=>?_,AO zp zp⟩;by_cases w:i=k;rw[w];exact⟨d,r⟩;exact g i zo
  have j:k=aa s.l:=zo;subst j;have b:decide ((aa s.l:Int)<(aa s.l:Int))=ab:=zS;rw[Qd g];exact Zq b
def mj(G)(u:Yy G)(c)(part most:Nat)(s)(y:s.l.length<1000000){f cap p}(n:P_ G f cap V.AB s.l p):Spec () G 142 [.int .u8 part,Za c 1 V.AB s,most,.func (.func f) [] cap] Zm (T1 (Wc part most p s.l.length)):=by
  refine Zo 0 36 [.cell 8 151] func142 λX=>?_;refine Z ?_;intro B;refine Z ?_;refine Z8 [0,1,2,3,8,11,12] [8] (aa s.l) (λk (_:Unit)=>[(13,k)]) (λ_ _=>[]) (λk _=>∀ i,i<k->i≠most/\p i=ad) 0 () qz (λi h=>absurd h (FH _)) zp zp ?_;intro k _ z j C o;by_cases a:k<aa s.l;have b:=zU ((k:Int)<(aa s.l:Int));have g:=AY a;generalize s.l[k]=x at g;have t:=wQ ((k:Int)+1);refine Zf (j3 b g g) ?_
  skip
  by_cases d:k=most;have q:((k:Int)==(most:Int))=ad:=by simp[d]
  rw[Vs a j (.inl d),AF d,d];exact Zh q
  .have q:((k:Int)==(most:Int))=ab:=by have:¬(k:Int)=(most:Int):=zo;simpa using this
   refine Zg q ?_;refine Co n.rc u ?_ (e:=n.en) (s:=n.sp k x g);cases r:p k;rw[Vs a j (.inr r),AA d];exact Zr;refine Zf t ?_;refine o _ ⟨a,(),λi A=>?_,AO zp zp⟩;by_cases w:i=k;rw[w];exact⟨d,r⟩;exact j i zo
  have m:k=aa s.l:=zo;subst m;have b:decide ((aa s.l:Int)<(aa s.l:Int))=ab:=by simp
  rw[Qd j];exact Zq b
def nK(G)(u:Yy G)(c)(part most:Nat)(s)(z:s.l.length<1000000){f cap p}(n:P_ G f cap Yw s.l p):Spec () G 145 [.int .u8 part,Za c 2 Yw s,most,.func (.func f) [] cap] Zm (T1 (Wc part most p s.l.length)):=by
  refine Zo 0 36 [.cell 8 151] func145 λX=>?_;refine Z ?_;intro C;refine Z ?_;refine Z8 [0,1,2,3,8,11,12] [8] (aa s.l) (λk (_:Unit)=>[(13,k)]) (λ_ _=>[]) (λk _=>∀ i,i<k->i≠most/\p i=ad) 0 () qz (λi h=>absurd h (FH _)) zp zp ?_;intro k _ A g D o;by_cases a:k<aa s.l;have b:=zU ((k:Int)<(aa s.l:Int));have m:=AY a;generalize s.l[k]=x at m;have t:=wQ ((k:Int)+1);refine Zf (j3 b m Xj) ?_;intro y;by_cases d:k=most;have q:((k:Int)==(most:Int))=ad:=by simp[d]
  rw[Vs a g (.inl d),AF d,d];exact Zh q
  .have q:((k:Int)==(most:Int))=ab:=by have:¬(k:Int)=(most:Int):=zo;simpa using this
   refine Zg q ?_;refine Co n.rc u ?_ (e:=n.en) (s:=n.sp k x m);cases r:p k;rw[Vs a g (.inr r),AA d];exact Zr;refine Zf t ?_;refine o _ ⟨a,(),λi B=>?_,AO zp zp⟩;by_cases w:i=k;rw[w];exact⟨d,r⟩;exact g i zo
  have j:k=aa s.l:=zo;subst j;have b:decide ((aa s.l:Int)<(aa s.l:Int))=ab:=zS;rw[Qd g];exact Zq b
def Gx(G)(w:Yy G)(c d)(part most:Nat)(s)(A:s.l.length<1000000){f cap p}(o:P_ G f cap (Y6 d.ent) s.l p):Spec () G 149 [.int .u8 part,Za c 8 (Y6 d) s,most,.func (.func f) [] cap] Zm (T1 (Wc part most p s.l.length)):=by
  refine Zo 0 36 [.cell 8 151] func149 λX=>?_;refine Z ?_;intro D;refine Z ?_;refine Z8 [0,1,2,3,8,11,12] [8] (aa s.l) (λk (_:Unit)=>[(13,k)]) (λ_ _=>[]) (λk _=>∀ i,i<k->i≠most/\p i=ad) 0 () qz (λi h=>absurd h (FH _)) zp zp ?_;intro k _ B j E r;by_cases a:k<aa s.l;have b:=zU ((k:Int)<(aa s.l:Int));have n:=AY a;generalize s.l[k]=x at n;have u:=wQ ((k:Int)+1);refine Zf (j3 b n Zp) ?_;intro z;by_cases g:k=most;have q:((k:Int)==(most:Int))=ad:=by simp[g]
  rw[Vs a j (.inl g),AF g,g];exact Zh q
  .have q:((k:Int)==(most:Int))=ab:=by have:¬(k:Int)=(most:Int):=zo;simpa using this
   refine Zg q ?_;refine Co o.rc w ?_ (e:=o.en) (s:=o.sp k x n);cases t:p k;rw[Vs a j (.inr t),AA g];exact Zr;refine Zf u ?_;refine r _ ⟨a,(),λi C=>?_,AO zp zp⟩;by_cases y:i=k;rw[y];exact⟨g,t⟩;exact j i zo
  have m:k=aa s.l:=zo;subst m;have b:decide ((aa s.l:Int)<(aa s.l:Int))=ab:=zS;rw[Qd j];exact Zq b
def mQ(G)(w:Yy G)(c d)(part most:Nat)(s)(A:s.l.length<1000000){f cap p}(o:P_ G f cap (Xo d.ent) s.l p):Spec () G 156 [.int .u8 part,Za c 8 (Xo d) s,most,.func (.func f) [] cap] Zm (T1 (Wc part most p s.l.length)):=by
  refine Zo 0 36 [.cell 8 151] func156 λX=>?_;refine Z ?_;intro D;refine Z ?_;refine Z8 [0,1,2,3,8,11,12] [8] (aa s.l) (λk (_:Unit)=>[(13,k)]) (λ_ _=>[]) (λk _=>∀ i,i<k->i≠most/\p i=ad) 0 () qz (λi h=>absurd h (FH _)) zp zp ?_;intro k _ B j E r;by_cases a:k<aa s.l;have b:=zU ((k:Int)<(aa s.l:Int));have n:=AY a;generalize s.l[k]=x at n;have u:=wQ ((k:Int)+1);refine Zf (j3 b n Z6) ?_;intro z;by_cases g:k=most;have q:((k:Int)==(most:Int))=ad:=by simp[g]
  rw[Vs a j (.inl g),AF g,g];exact Zh q
  .have q:((k:Int)==(most:Int))=ab:=by have:¬(k:Int)=(most:Int):=zo;simpa using this
   refine Zg q ?_;refine Co o.rc w ?_ (e:=o.en) (s:=o.sp k x n);cases t:p k;rw[Vs a j (.inr t),AA g];exact Zr;refine Zf u ?_;refine r _ ⟨a,(),λi C=>?_,AO zp zp⟩;by_cases y:i=k;rw[y];exact⟨g,t⟩;exact j i zo
  have m:k=aa s.l:=zo;subst m;have b:decide ((aa s.l:Int)<(aa s.l:Int))=ab:=zS;rw[Qd j];exact Zq b
def uQ(G p c a):Spec () G 141 [Yw p,.view c (Yw a)] Zm (λv _=>v=.bool (p.1==a.1)):=by refine Zo 0 9 [.tmp 3] func141 λX=>?_;simp only[Xj];refine Z ?_;intro b;exact Zr
def tF(G)(m:Yy G)(c c1 s)(n:s.l.length<1000000)(a):Spec () G 200 [Za c 2 Yw s,.func (.func 141) [] [.view c1 (Yw a)]] Zm (λv _=>v=qI (Oy (λp=>p.1==a.1) s.l)):=by
 refine Zo 0 19 [.tmp 4] func200 λX=>?_;refine Z ?_;refine Z8 [0,1,7] [] (aa s.l) (λk (_:Unit)=>[(8,k)]) (λ_ _=>[]) (λk _=>∀ y∈s.l.take k,(y.1==a.1)=ab) 0 () qz zS zp zp ?_;intro k _ o f q h;by_cases d:k<aa s.l
 .have b:=zU ((k:Int)<(aa s.l:Int));have e:=AY d;generalize s.l[k]=x at e;refine Zf (j3 b e Xj) ?_;refine Co @Xj m ?_ (s:=uQ G x c1.ent a);cases i:(x.1==a.1);have j:=wQ ((k:Int)+1);refine Zf j ?_;exact h _ ⟨d,(),V3 e f i,AO (Vw @Xj) zp⟩;refine Z ?_;rw[Td (p:=λp:bS×Int=>p.1==a.1) e f i]
 have g:k=aa s.l:=zo;have b:=zV ((k:Int)<(aa s.l:Int));rw[g,B_]at f;refine Zf b ?_;rw[Te (p:=λp:bS×Int=>p.1==a.1) f]
def Mf{α}(p)(l:List α):decide (Oy p l>=0)=l.any p:=by unfold Oy;rcases h:l.findIdx? p with _|i;rw[WC]at h;rw[JF.2 (λx a=>by rw[h x a];decide)];rfl;have⟨b,h2,_⟩:=OS.1 h;rw[FX.2 ⟨_,BT b,h2⟩];exact EI (DS i)
def nZ(G)(b:Yy G)(c c1 s)(d:s.l.length<1000000)(a):Spec () G 140 [Za c 2 Yw s,.func (.func 141) [] [.view c1 (Yw a)]] Zm (λv _=>v=.bool (s.l.any λp=>p.1==a.1)):=by refine Zo 0 9 [.tmp 4] func140 λX=>?_;refine Z ?_;refine Co @Xj b ?_ (s:=tF G b c.ent c1.ent s d a);refine Z ?_;rw[Mf]
def ZZ(s):((Tc s:Int)==2)=(Tc s==2):=by rw[FW,CX,CX];omega
def RC(c d:AH)(m):[V.view .old (Zw c.ent d.ent m)].map (V.recol AH.ent)=[V.view .old (Zw c.ent d.ent m)]:=by simp only[BI,BV,V.recol,Kz,Eg];rfl
def AAE(G)(g:CR G)(c1 c d m)(r:m.vars.l.length<1000000)(i:Nat){x}(f:m.vars.l[i]?=ae x)(j:x.1.length<1000000000000000):Spec () G 139 [i,Yw x,.view c1 (Zw c d m)] Zm (m.p.varB i):=by
 have e:=g.ok;refine Zo 0 24 [.tmp 5] func139 λX=>?_;have n:i<aa m.vars.l:=(DG.1 f).1;have k:m.p.nameAt i=x.1:=by show(m.vars.l.getD i ([],0)).1=x.1;rw[DK,f]<;>rfl
 rw[PM.varB,k];simp only[Zj,Xj];refine Z ?_;intro t;refine BM (Z4 (λo=>o==4) (l:=[(0,i),(2,.view c1 (Zw c d m)),(4,qW (Yw x))]) (m:=[]) ?_ trivial) ?_;refine Xc @Zj ?_;exact⟨Zd,Zd,CS (v:=Yw x) zp zp⟩;simp only[Zj];refine Zf Xj ?_;refine Zc e ?_ (s:=Pb G g x.1 j);have b:=ZZ x.1;cases h:(Tc x.1==2);rw[h]at b;exact Zh b;rw[h]at b;cases h2:(x.1==Ts);have q:(x.1==[97,114,103])=ab:=h2;refine Zg (j5 b q Xj (CB i) (LL n)) ?_;have a:=nZ G e c.ent .old (m.vars.sub 0 i) (by rw[Nj];simp;omega) x;rw[Nj]at a;refine Co @Xj e ?_ (s:=a);exact Zr;have q:(x.1==[97,114,103])=ad:=h2;exact Zh (j3 b q Xj)
def AAV(G)(g:CR G)(c1 c d m)(o:m.BF.l.length<1000000)(i:Nat){x:bS}(f:m.BF.l[i]?=ae x)(j:x.length<1000000000000000):Spec () G 143 [i,x,.view c1 (Zw c d m)] Zm (m.p.signalB i):=by
 have e:=g.ok;refine Zo 0 18 [.tmp 5] func143 λX=>?_;have n:i<aa m.BF.l:=(DG.1 f).1;have k:m.p.BF.getD i []=x:=by show m.BF.l.getD i []=x;rw[DK,f]<;>rfl
 rw[PM.signalB,k];simp only[Zj];refine Z ?_;refine Zc e ?_ (s:=Pb G g x j);have b:=ZZ x;cases h:(Tc x==2);rw[h]at b;exact Zh b;rw[h]at b;refine Zg (j3 b (CB i) (LL n)) ?_;have a:=Tx G e c.ent x (m.BF.sub 0 i) (by rw[Nj];simp;omega);rw[Nj]at a;refine Zc e ?_ (s:=a);exact Zr
def AAm(G)(j:CR G)(c1 c d m)(i:Nat){x}(r:m.AU.l[i]?=ae x)(o:x.1.length<1000000000000000):Spec () G 146 [i,Yw x,.view c1 (Zw c d m)] Zm (m.p.regionB i):=by
 have g:=j.ok;refine Zo 0 35 [.tmp 5] func146 λX=>?_;have u:(m.p.AU.getD i ([],0))=x:=by show m.AU.l.getD i ([],0)=x;rw[DK,r]<;>rfl
 have b:m.p.ow (i:Int)=x.2:=Mr r;rw[PM.regionB,u];simp only[Zj,Xj];refine Z ?_;intro z;by_cases h:i=0
 .rw[AF h];rw[h]at b;rw[show m.p.ow 0=x.2 from b];have q:((i:Int)==0)=ad:=by simp[h]
  refine Zf q ?_;refine Zc g ?_ (s:=Rb G j x.1 o);cases a:V0 x.1;exact Zh a;exact Zh a
 .rw[AA h,b];have q:((i:Int)==0)=ab:=by have:¬(i:Int)=0:=zo;simpa using this
  refine Zf q ?_;refine Zc g ?_ (s:=Rb G j x.1 o);cases a:V0 x.1;exact Zh a;refine Zg a ?_;refine Zc g ?_ (s:=Jk G c.ent d.ent m x.2);cases h2:m.p.stateB x.2;exact Zh h2;have n:=h2;simp only[PM.stateB,BP,CM]at n;have⟨k,y,f,w,e,t⟩:=EH n.1.1 n.1.2;rw[t];exact Zh (j5 f e w Zp Ya)
def zj(G)(w:CR G)(c1 c d e m)(B:m.BF.l.length<1000000)(i:Nat){x}(E:m.AL.l[i]?=ae x)(H:x.name.length<1000000000000000)(D:x.sub.length<1000000000000000)(C:x.defers.l.length<1000000):Spec () G 150 [i,Y6 e x,.view c1 (Zw c d m)] Zm (m.p.vertexB (m.p.vx i)):=by
 have k:=w.ok;refine Zo 0 75 [.tmp 5] func150 λX=>?_;rw[Rj E];have F:m.p.vertexB x.p=(V0 x.name&&decide (1<=x.AD)&&decide (x.AD<=12)&&m.p.liesB x.p&&((x.entry==[]&&x.exit==[]&&decide (aa x.defers.l=0)&&x.sub==[])||x.AD==1)&&V0 x.sub &&
  decide (aa x.entry<=4096)&&decide (aa x.exit<=4096)&&HJ m.BF.l x.defers.l):=rfl
 rw[F];simp only[Zj,Zp];refine Z ?_;intro I;refine Y2 (λo=>o==4) [2] [] (l:=[(4,qW (Y6 e x))]) (m:=[]) ?_ trivial ?_;refine Xc @Zj ?_;exact CS (v:=Y6 e x) zp zp;generalize a:(x.entry==[]&&x.exit==[]&&decide (aa x.defers.l=0)&&x.sub==[])=A;refine Yt (fun(_:Unit)=>st [(2,.view c1 (Zw c d m)),(4,qW (Y6 e x)),(6,A)] []) (λ_=>True) (λJ j=>?_) ?_
 .have hz:(((aa x.defers.l:Nat):Int)==0)=decide (aa x.defers.l=0):=by rw[FW,CX,CM];omega
  cases f:(x.entry==[])with|false=>rw[f]at a;subst a;refine Zf (zi f Zp) ?_;exact j _ () trivial (AO (Vw (zi @Zp @Zj)) zp)|true=>
  cases h:(x.exit==[])with|false=>rw[f,h]at a;subst a;refine Zf (j3 f h Zp) ?_;exact j _ () trivial (AO (Vw (zi @Zp @Zj)) zp)|true=>
  cases t:decide (aa x.defers.l=0);rw[t]at hz;rw[f,h,t]at a;subst a;refine Zf (j4 f h hz Zp) ?_;exact j _ () trivial (AO (Vw (zi @Zp @Zj)) zp);rw[t]at hz;rw[f,h,t]at a;subst a;refine Zf (j4 f h hz Zp) ?_;exact j _ () trivial (AO (Vw (zi @Zp @Zj)) zp)
 intro _ _;refine Zf Zp ?_;refine Zc k ?_ (s:=Rb G w x.name H);cases f:V0 x.name;exact Zh f;by_cases h:1<=x.AD
 rotate_left;have y:=zV (x.AD>=1);rw[GC h];exact Zh y;have y:=zU (x.AD>=1);rw[EI h]
 by_cases t:x.AD<=12
 rotate_left;have f3:=zV (x.AD<=12);rw[f3];exact Zh (j3 y f3 Zp);have f3:=zU (x.AD<=12);rw[f3];refine Zg (j4 y f3 Zp Zj) ?_;refine Zc k ?_ (s:=AA2 G k c.ent d.ent e.ent m x);cases u:m.p.liesB x.p;exact Zh u;cases A;cases z:(x.AD==1);exact Zh (j3 u z Zp);refine Zg (j4 u z Zp Zj) ?_;refine Zc k ?_ (s:=Rb G w x.sub D);cases g:V0 x.sub;exact Zh g;have b:decide (((aa x.entry:Nat):Int)<=4096)=decide (aa x.entry<=4096):=EB.2 zo;have n:decide (((aa x.exit:Nat):Int)<=4096)=decide (aa x.exit<=4096):=EB.2 zo;cases r:decide (aa x.entry<=4096);rw[r]at b;exact Zh (j3 g b Zp);rw[r]at b;cases q:decide (aa x.exit<=4096);rw[q]at n;exact Zh (j4 g b n Zp);rw[q]at n;refine Zg (j5 g b n Zp Zj) ?_;refine Zc k ?_ (s:=Lo G k c.ent d.ent e.ent m x.defers B C);exact Zr;refine Zg (j3 u Zp Zj) ?_;refine Zc k ?_ (s:=Rb G w x.sub D);cases g:V0 x.sub;exact Zh g;have b:decide (((aa x.entry:Nat):Int)<=4096)=decide (aa x.entry<=4096):=EB.2 zo;have n:decide (((aa x.exit:Nat):Int)<=4096)=decide (aa x.exit<=4096):=EB.2 zo;cases r:decide (aa x.entry<=4096);rw[r]at b;exact Zh (j3 g b Zp);rw[r]at b;cases q:decide (aa x.exit<=4096);rw[q]at n;exact Zh (j4 g b n Zp)
 rw[q]at n;refine Zg (j5 g b n Zp Zj) ?_;refine Zc k ?_ (s:=Lo G k c.ent d.ent e.ent m x.defers B C);exact Zr
def yl(G)(a:Yy G)(c1 c d e m)(b:m.p.FB)(i:Nat){x}(f:m.AL.l[i]?=ae x):Spec () G 153 [i,Y6 e x,.view c1 (Zw c d m)] Zm (m.p.deepB i):=by refine Zo 0 10 [.tmp 5] func153 λX=>?_;have h:i<aa m.AL.l:=(DG.1 f).1;have g:m.p.deepB i=decide (((m.p.depth i:Nat):Int)<=64):=EB.2 zo;rw[g];simp only[Zj,Zp];refine Z ?_;intro j;refine Z ?_;refine Zc a ?_ (s:=qA G a c.ent d.ent m b i zo (by rw[m.nv];omega));exact Zr
def eJ(G c1 c d m)(v:Int):Spec () G 155 [v,.view c1 (Zw c d m)] Zm (m.p.inV v):=by refine Zo 0 13 [.tmp 3] func155 λX=>?_;rw[PM.inV,m.nv];simp only[Zj];by_cases a:0<=v;have q:=zU (v>=0);rw[EI a];exact Zq q;have q:=zV (v>=0);rw[GC a];exact Zq q
def zE(G)(F:CR G)(c1 K w c d y u e m)(I:m.BF.l.length<1000000)(i:Nat){x}(H:m.AE.l[i]?=ae x)(M:x.name.length<1000000000000000)(L:x.C_.l.length<1000000):Spec () G 157 [i,Xo e x,.view K (.func (.func 155) [] [.view w (Zw y u m)]),.view c1 (Zw c d m)] Zm (m.p.wayB (m.p.wy i)):=by
 have o:=F.ok;refine Zo 0 71 [.tmp 6] func157 λX=>?_;rw[Ri H];have J:m.p.wayB x.p=(V0 x.name&&m.p.inV x.AV&&m.p.inV x.target&&HJ m.BF.l x.C_.l&&decide (0<=x.after)&&decide (x.after<=65535)&&(x.after==0||decide (aa x.C_.l=0)) &&
  decide (1<=x.AD)&&decide (x.AD<=3)&&decide (aa x.guard<=4096)&&decide (aa x.DT<=4096)):=rfl
 rw[J];simp only[Z6];refine Z ?_;intro N;refine Wo zk ?_;simp -implicitDefEqProofs only[go_sem,seval,Z6,List.append_eq];refine Zc o ?_ (s:=Rb G F x.name M);cases E:V0 x.name;exact Zh E;refine Zg E ?_;refine Zc o ?_ (s:=eJ G w.ent y.ent u.ent m x.AV);cases D:m.p.inV x.AV;exact Zh D;refine Zg D ?_;refine Zc o ?_ (s:=eJ G w.ent y.ent u.ent m x.target);cases C:m.p.inV x.target;exact Zh C;refine Zg (zi C Zj) ?_;refine Zc o ?_ (s:=Lo G o c.ent d.ent e.ent m x.C_ I L);cases q:HJ m.BF.l x.C_.l;exact Zh q;by_cases B:0<=x.after
 rotate_left;have r:=zV (x.after>=0);rw[GC B];exact Zh (zi q r);have r:=zU (x.after>=0);rw[EI B];cases A:decide (x.after<=65535);exact Zh (j3 q r A);have f:=j3 q r A;cases b:(x.after==0)
 have j:(((aa x.C_.l:Nat):Int)==0)=decide (aa x.C_.l=0):=by rw[FW,CX,CM];omega
 cases z:decide (aa x.C_.l=0);rw[z]at j;exact Zh (j3 f b j)
 .rw[z]at j;by_cases n:1<=x.AD
  rotate_left;have a:=zV (x.AD>=1);rw[GC n];exact Zh (zi (j3 f b j) a);have a:=zU (x.AD>=1);rw[EI n];cases h:decide (x.AD<=3);exact Zh (j3 (j3 f b j) a h);have g:decide (((aa x.guard:Nat):Int)<=4096)=decide (aa x.guard<=4096):=EB.2 zo;have t:decide (((aa x.DT:Nat):Int)<=4096)=decide (aa x.DT<=4096):=EB.2 zo;cases k:decide (aa x.guard<=4096);rw[k]at g;exact Zh (j4 (j3 f b j) a h g);rw[k]at g;exact Zh (j5 (j3 f b j) a h g t)
 .by_cases n:1<=x.AD
  rotate_left;have a:=zV (x.AD>=1);rw[GC n];exact Zh (zi (zi f b) a);have a:=zU (x.AD>=1);rw[EI n];cases h:decide (x.AD<=3);exact Zh (j3 (zi f b) a h);have g:decide (((aa x.guard:Nat):Int)<=4096)=decide (aa x.guard<=4096):=EB.2 zo;have t:decide (((aa x.DT:Nat):Int)<=4096)=decide (aa x.DT<=4096):=EB.2 zo;cases k:decide (aa x.guard<=4096);rw[k]at g;exact Zh (j4 (zi f b) a h g);rw[k]at g;exact Zh (j5 (zi f b) a h g t)
def Ft(G)(a:Yy G)(s:bS)(b:s.length<1000000000000000):Spec () G 63 [s] Zm (λv _=>v=.bool (Tc s==2)):=by refine Zo 0 6 [.tmp 2] func63 λX=>?_;refine Z ?_;refine Zc a ?_ (s:=Of G a s b);rw[<- ZZ];exact Zr
def O3(G)(a:Yy G)(s:bS)(b:s.length<1000000000000000):Spec () G 189 [s] Zm (V0 s):=by refine Zo 0 9 [.tmp 2] func189 λX=>?_;rw[V0];cases h:(s==[]);refine Zf h ?_;refine Zc a ?_ (s:=Ft G a s b);rw[CH];exact Zr;exact Zq h
def tI{l:List bS}{s}(h:∀ y∈l,(y==s)=ab):l.contains s=ab:=by rw[NK,JF];intro y a;rw[BEq.comm,h y a];decide
def K6(G c)(s:bS)(l)(j:l.l.length<1000000):Spec () G 121 [s,Za c 1 V.AB l] Zm (l.l.contains s):=by
 refine Zo 0 18 [.tmp 4] func121 λX=>?_;refine Z ?_;refine Z8 [0,1] [] (aa l.l) (λk (_:Unit)=>[(5,k)]) (λ_ _=>[]) (λk _=>∀ y∈l.l.take k,(y==s)=ab) 0 () qz zS zp zp ?_;intro k _ m g n h;by_cases b:k<aa l.l;have a:=zU ((k:Int)<(aa l.l:Int));have d:=AY b;generalize l.l[k]=x at d;have i:=wQ ((k:Int)+1);cases e:(x==s);refine Zf (j4 a d e i) ?_;exact h _ ⟨b,(),V3 (p:=λy=>y==s) d g e,AO zp zp⟩;have:l.l.contains s=ad:=by rw[HS,<- eq_of_beq e];exact DY d
 rw[this];exact Zq (j3 a d e);have f:k=aa l.l:=zo;have a:=zV ((k:Int)<(aa l.l:Int));rw[f,B_]at g;rw[tI g];exact Zq a
def Ra(G)(i n:Int):Spec () G 190 [i,n] Zm (λv _=>v=.bool (decide (0<=i)&&decide (i<n))):=by refine Zo 0 12 [.tmp 4] func190 λX=>?_;by_cases a:0<=i;have q:=zU (i>=0);rw[EI a];exact Zq q;have q:=zV (i>=0);rw[GC a];exact Zq q
def Fu(G)(r:Yy G)(c d c1 m l)(y:m.BF.l.length<1000000)(A:l.l.length<1000000):Spec () G 191 [Zw c d m,Za c1 1 V.AB l] Zm (HJ m.BF.l l.l):=by
 refine Zo 0 30 [.tmp 4] func191 λX=>?_;simp only[Zj];refine Z ?_;intro D;refine qF 2 [1] [] 2 (Zw c d m) ?_;refine Z ?_;refine Z8 [1,2] [] (aa l.l) (λk (_:Unit)=>[(5,k)]) (λ_ _=>[]) (λk _=>∀ i s,i<k->l.l[i]?=ae s->m.BF.l.contains s=ad/\(l.l.take i).contains s=ab) 0 () qz (λi s h=>absurd h (FH _)) zp zp ?_;intro k _ B t E q;by_cases e:k<aa l.l
 .have f:=zU ((k:Int)<(aa l.l:Int));have g:=AY e;generalize l.l[k]=x at g;have u:=wQ ((k:Int)+1);refine Ym f ?_;have a:=λc=>K6 G c x (l.sub 0 k) (by rw[Nj];simp;omega);rw[Nj]at a;have b:=λc=>K6 G c x m.BF y;cases n:m.BF.l.contains x;rw[n]at b
  repeat first
   |refine Zz ?_|refine BK ?_|refine W7 rfl ?_|refine Xh rfl ?_|(refine EP ?_;simp -implicitDefEqProofs only[go_sem,seval])|(refine FO ?_;simp -implicitDefEqProofs only[go_sem,seval])
  refine Zv ⟨λi=>if i=6 then .bool ab else .top,λ_=>.pure⟩ zk r zk zk ?_;refine Xc (zi g @Zj) ?_;refine⟨⟨zk,by refine Zs ?_;exact(b _).mono (by rintro _ _ rfl;rfl)⟩,?_⟩;have:HJ m.BF.l l.l=ab:=by rw[FV];intro h;have:=(Cg.1 h k x g).1;rw[n]at this;cases this
  rw[this];exact Zr;rw[n]at b;cases h2:(l.l.take k).contains x;rw[h2]at a
  repeat first
   |refine Zz ?_|refine BK ?_|refine W7 rfl ?_|refine Xh rfl ?_|(refine EP ?_;simp -implicitDefEqProofs only[go_sem,seval])|(refine FO ?_;simp -implicitDefEqProofs only[go_sem,seval])
  refine Zv ⟨λi=>if i=6 then .bool ad else if i=16 then .bool ab else .top,λ_=>.pure⟩ zk r zk zk ?_;simp -implicitDefEqProofs only[go_sem,seval,g,Zj,CB,LL e];refine⟨⟨zk,by refine Zs ?_;exact(b _).mono (by rintro _ _ rfl;rfl)⟩,⟨zk,by refine Zs ?_;exact(a _).mono (by rintro _ _ rfl;rfl)⟩,?_⟩;refine Zf u ?_;refine q _ ⟨e,(),λi s C j=>?_,AO (Vw Zj) zp⟩;by_cases z:i=k;subst z;rw[g]at j;obtain rfl:=EY j;exact⟨n,h2⟩;exact t i s zo j;rw[h2]at a
  repeat first
   |refine Zz ?_|refine BK ?_|refine W7 rfl ?_|refine Xh rfl ?_|(refine EP ?_;simp -implicitDefEqProofs only[go_sem,seval])|(refine FO ?_;simp -implicitDefEqProofs only[go_sem,seval])
  refine Zv ⟨λi=>if i=6 then .bool ad else if i=16 then .bool ad else .top,λ_=>.pure⟩ zk r zk zk ?_;simp -implicitDefEqProofs only[go_sem,seval,g,Zj,CB,LL e];refine⟨⟨zk,by refine Zs ?_;exact(b _).mono (by rintro _ _ rfl;rfl)⟩,⟨zk,by refine Zs ?_;exact(a _).mono (by rintro _ _ rfl;rfl)⟩,?_⟩;have:HJ m.BF.l l.l=ab:=by rw[FV];intro h;have:=(Cg.1 h k x g).2;rw[h2]at this;cases this
  rw[this];exact Zr
 have p:k=aa l.l:=zo;subst p;have f:decide ((aa l.l:Int)<(aa l.l:Int))=ab:=zS;rw[Cg.2 λi s j=>t i s (DG.1 j).1 j];exact Zq f
def ABM(G)(t:Yy G)(c d m)(E:m.vars.l.length<1000000)(i:Nat){x}(h:m.vars.l[i]?=ae x)(B:x.1.length<1000000000000000):Spec () G 120 [Zw c d m,i] Zm (m.p.varB i):=by
 refine Zo 0 40 [.tmp 4] func120 λX=>?_;have q:i<aa m.vars.l:=(DG.1 h).1;have C:m.p.nameAt i=x.1:=by show(m.vars.l.getD i ([],0)).1=x.1;rw[DK,h]<;>rfl
 have D:m.p.varB i=((Tc x.1==2) && !(x.1==Ts) && !((m.vars.l.take i).any λy=>y.1==x.1)):=by rw[PM.varB,C]<;>rfl
 rw[D];simp only[Zj];refine Z ?_;intro H;refine qF 2 [1] [] 2 (Zw c d m) ?_;refine Z ?_;refine Z8 [1,2] [] i (λk (_:Unit)=>[(5,k)]) (λ_ _=>[]) (λk _=>∀ y∈m.vars.l.take k,(y.1==x.1)=ab) 0 () qz zS zp zp ?_;intro k _ F u I r;by_cases g:k<i;have e:=zU ((k:Int)<(i:Int));have f:k<aa m.vars.l:=zo;have a:=AY f;have b:m.vars.l[k]∈m.vars.l.take i:=DY (i:=k) (by rw[OU,AF g];exact a);generalize m.vars.l[k]=y at a b;have z:=wQ ((k:Int)+1);refine Ym e ?_;refine Pr (j7 h q a f Xj Zj Ya) t ?_;cases j:(y.1==x.1);refine Zf (zi j z) ?_;exact r _ ⟨g,(),V3 (p:=λy=>y.1==x.1) a u j,AO (Vw Zj) zp⟩;rw[FX.2 ⟨y,b,j⟩];simp only[GR,EX];exact Zq j;have n:k=i:=zo;subst n;have e:decide ((k:Int)<(k:Int))=ab:=zS;rw[JF.2 (λy A=>by rw[u y A];decide),PX,IX];refine Ym e ?_;refine Zf (j5 h q Xj Zj Ya) ?_;refine Zc t ?_ (s:=Ft G t x.1 B);cases w:(Tc x.1==2);exact Zh w
 .have hb:(x.1 != [97,114,103]) = !(x.1==Ts):=rfl;refine Zg (j6 w h q Xj Zj Ya) ?_;rw[<- hb,DJ]
  try rfl
def ly(G)(j:Yy G)(c d m)(i:Nat){x}(a:m.AU.l[i]?=ae x)(u:x.1.length<1000000000000000):Spec () G 122 [Zw c d m,i] Zm (m.p.regionB i):=by
 refine Zo 0 46 [.tmp 4] func122 λX=>?_;have A:i<aa m.AU.l:=(DG.1 a).1;have w:(m.p.AU.getD i ([],0))=x:=by show m.AU.l.getD i ([],0)=x;rw[DK,a]<;>rfl
 have e:m.p.ow (i:Int)=x.2:=Mr a;rw[PM.regionB,w];simp only[Zj];refine Z ?_;intro D;refine Zf (j4 a A Xj Ya) ?_;intro C;refine Z ?_;refine Zc j ?_ (s:=O3 G j x.1 u);cases o:V0 x.1;exact Zh o;by_cases h:i=0;rw[AF h];rw[h]at e;rw[show m.p.ow 0=x.2 from e];have q:((i:Int)==0)=ad:=by simp[h]
 exact Zh (zi o q);rw[AA h,e];have q:((i:Int)==0)=ab:=by have:¬(i:Int)=0:=zo;simpa using this
 refine Zg (zi o q) ?_;refine Zc j ?_ (s:=Ra G x.2 (aa m.AL.l));have B:m.p.stateB x.2=(decide (0<=x.2)&&decide (x.2<(aa m.AL.l:Int))&&((m.p.vx x.2).AD==1)):=by rw[PM.stateB,m.nv]
 rw[B];cases h2:(decide (0<=x.2)&&decide (x.2<(aa m.AL.l:Int)));exact Zh h2;have n:=h2;simp only[BP,CM]at n;obtain⟨k,y,g,z,f,t⟩:=EH n.1 (by rw[m.nv];exact n.2);rw[t];have r:=j6 h2 g f z Zp Ya;cases b:(y.AD==1);have:(y.p.AD==1)=ab:=b;rw[this];exact Zh (zi r b);have:(y.p.AD==1)=ad:=b;rw[this];exact Zh (zi r b)
def Rr(G)(B:Yy G)(c d m)(u:m.p.FB)(v:Int)(l:0<=v)(j:v<m.p.AN.length):Spec () G 136 [Zw c d m,v] Zm (m.p.around v):=by refine Zo 0 29 [.tmp 4] func136 λX=>?_;have a:=u.pt l j;obtain⟨k,x,rfl,z,A,t⟩:=EH l j;rw[PM.around];rw[t]at a⊢;simp only[Zj];have f:=j4 A z Zp Ya;refine Z ?_;intro C;by_cases i:0<=x.of;have q:=zU (x.of>=0);refine Zf (zi f q) ?_;rw[AF (show 0<=x.p.of from i)]<;>rfl;have q:=zV (x.of>=0);have⟨_,o,n,_⟩:=a.resolve_left (λh=>i h.1);have⟨r,y,g,b,e,s⟩:=Ov o n;rw[AA (show ¬0<=x.p.of from i),s];have g:x.region=(r:Int):=g;refine Zf (zi f q) ?_;refine Pr (j5 f g e b Xj) B ?_;exact Zr
def oz(G)(e:Yy G)(c d m)(j:m.p.FB)(v:Int)(A:0<=v)(z:v<m.p.AN.length):Spec () G 124 [Zw c d m,v] Zm (m.p.depth v):=by
 refine Zo 0 20 [.tmp 4] func124 λX=>?_;simp only[Zj];refine Z ?_;intro C;refine qF 2 [1] [] 2 (Zw c d m) ?_;refine Z ?_;refine Xw [2] [] (fun(y:Nat×Int)=>[(1,qI y.2),(5,qI y.1)]) (λ_=>[]) (λy=>y.1<=65/\0<=y.2/\y.2<aa m.p.AN/\m.p.depth v=y.1+aa (m.p.upsF (65-y.1) y.2)) (λy=>65-y.1) (0,v) ⟨CB _,A,z,by rw[EE]<;>rfl⟩ (Vw Zj) zp ?_;rintro⟨n,w⟩ ⟨u,w0,a,b⟩ D r;simp only at u w0 a b;by_cases t:n<65;have g:=zU ((n:Int)<65);refine Zf (zi g Zj) ?_;refine Zc e ?_ (s:=Rr G e c.ent d.ent m j w w0 a);by_cases x:0<=m.p.around w;have i:=zU (m.p.around w>=0);have B:=wQ ((n:Int)+1);have k:m.p.around w<aa m.p.AN:=by rcases j.DA w0 a with q|q;omega;exact q.2
 refine Zg (zi i Zj) ?_;refine Zc e ?_ (s:=Rr G e c.ent d.ent m j w w0 a);refine Zf B ?_;refine r _ ⟨(n+1,m.p.around w),by show 65-(n+1)<65-n;omega,⟨by show n+1<=65;omega,x,k,?_⟩,AO (Vw Zj) zp⟩;show m.p.depth v=n+1+aa (m.p.upsF (65-(n+1)) (m.p.around w));rw[b,show 65-n=(65-(n+1))+1 by omega,PM.upsF,AA zo,CW];omega;have i:=zV (m.p.around w>=0);have:m.p.upsF (65-n) w=[]:=by rcases h:65-n with _|f;rfl;rw[PM.upsF,AF zo]
 rw[b,this];exact Zh i;have g:=zV ((n:Int)<65);rw[b,show 65-n=0 by omega];exact Zq g
def kw(n k):decide (((n:Nat):Int)>((k:Nat):Int)) = !decide (n<=k):=by rw[FW,VY,CM,IL];omega
def ACE(n):decide (((n:Nat):Int)>0) = !decide (n=0):=by rw[FW,VY,CM,IL];omega
def ABw(n):(((n:Nat):Int)==0)=decide (n=0):=by rw[FW,CX,CM];omega
def AA4(G)(r:Yy G)(c d m)(he:m.BF.l.length<1000000)(i:Nat){x}(U:m.AL.l[i]?=ae x)(b1:x.name.length<1000000000000000)(b2:x.sub.length<1000000000000000)(b3:x.defers.l.length<1000000):Spec () G 123 [Zw c d m,i] Zm (m.p.vertexB (m.p.vx i)):=by
 refine Zo 0 114 [.tmp 4] func123 λX=>?_;have hi:i<aa m.AL.l:=(DG.1 U).1;rw[Rj U];have a:m.p.vertexB x.p=(V0 x.name&&decide (1<=x.AD)&&decide (x.AD<=12)&&m.p.liesB x.p&&((x.entry==[]&&x.exit==[]&&decide (aa x.defers.l=0)&&x.sub==[])||x.AD==1)&&V0 x.sub &&
  decide (aa x.entry<=4096)&&decide (aa x.exit<=4096)&&HJ m.BF.l x.defers.l):=rfl
 have C:m.p.liesB x.p=if x.AD=10\/x.AD=11 then(x.region == -1)&&m.p.stateB x.of else(x.of == -1)&&decide (0<=x.region)&&decide (x.region<aa m.AU.l):=rfl;have W:m.p.stateB x.of=(decide (0<=x.of)&&decide (x.of<(aa m.AL.l:Int))&&((m.p.vx x.of).AD==1)):=by rw[PM.stateB,m.nv]
 generalize m.p.vertexB x.p=f at a⊢;generalize m.p.liesB x.p=Y at a C;simp only[Zj];refine Z ?_;intro g2;refine Zf (j4 U hi Zp Ya) ?_;intro g5;refine BM (Z4 (λo=>o==5||o==2) (l:=[(2,qW (Zw c d m)),(5,qW (Y6 d x))]) (m:=[]) ?_ trivial) ?_;refine Zs ?_;exact⟨CS (v:=Zw c d m) zp zp,CS (v:=Y6 d x) zp zp⟩;refine Zf Zp ?_;refine Zc r ?_ (s:=O3 G r x.name b1);cases O:V0 x.name;have b:f=ab:=by rw[a];simp only[O,EX,EG,DZ,CH]
 rw[b];exact Zh (O);refine Zg (zi O Zp) ?_;refine Zc r ?_ (s:=O3 G r x.sub b2);cases t:V0 x.sub;have b:f=ab:=by rw[a];simp only[t,EX,EG,DZ,CH]
 rw[b];exact Zh (t);by_cases n:1<=x.AD
 rotate_left;have f3:=zU (x.AD<1);have R:=GC n
 have b:f=ab:=by rw[a];simp only[R,EX,EG,DZ,CH]
 rw[b];exact Zh (j3 t f3 Zp);have f3:=zV (x.AD<1);have R:=EI n;by_cases g:x.AD<=12
 rotate_left;have f4:=zU (x.AD>12);have Q:=GC g
 have b:f=ab:=by rw[a];simp only[Q,EX,EG,DZ,CH]
 rw[b];exact Zh (j4 t f3 f4 Zp);have f4:=zV (x.AD>12);have Q:=EI g;have I:decide (((aa x.entry:Nat):Int)>4096) = !decide (aa x.entry<=4096):=kw _ 4096;have P:decide (((aa x.exit:Nat):Int)>4096) = !decide (aa x.exit<=4096):=kw _ 4096;cases N:decide (aa x.entry<=4096);rw[N]at I;have b:f=ab:=by rw[a];simp only[N,EX,EG,DZ,CH]
 rw[b];exact Zh (j5 t f3 f4 I Zp);rw[N]at I;cases M:decide (aa x.exit<=4096);rw[M]at P;have b:f=ab:=by rw[a];simp only[M,EX,EG,DZ,CH]
 rw[b];exact Zh (j6 t f3 f4 I P Zp);rw[M]at P;refine Zg (j7 t f3 f4 I P Zp Zj) ?_;refine Zc r ?_ (s:=Fu G r c.ent d.ent d.ent m x.defers he b3);cases L:HJ m.BF.l x.defers.l;have b:f=ab:=by rw[a];simp only[L,EX,EG,DZ,CH]
 rw[b];exact Zh (L);rw[O,t,R,Q,N,M,L]at a;simp only[DJ,IX]at a;have H:=ACE (aa x.defers.l);have w:(x.AD != 1) = !(x.AD==1):=rfl;refine Xc L ?_;refine Z0 ?_;refine Yt (fun(_:Unit)=>st [(2,qW (Zw c d m)),(5,qW (Y6 d x))] []) (λ_=>f=Y) (λK1 q=>?_) ?_
 .cases j:(x.AD==1)
  rotate_left;rw[j]at a w;simp only[KG,IX]at a;refine Zf (zi w Zp) ?_;exact q _ () a (AO (Vw (zi @Zp @Zj)) zp);rw[j]at a w;simp only[DZ]at a;cases e:(x.entry==[])
  have b:f=ab:=by rw[a];simp only[e,EX,EG,DZ,CH]
  rw[b];exact Zh (j3 w e Zp);cases E:(x.exit==[]);have b:f=ab:=by rw[a];simp only[E,EX,EG,DZ,CH]
  rw[b];exact Zh (j4 w e E Zp);cases J:decide (aa x.defers.l=0);rw[J]at H;have b:f=ab:=by rw[a];simp only[J,EX,EG,DZ,CH]
  rw[b];exact Zh (j5 w e E H Zp);rw[J]at H;cases K:(x.sub==[]);have b:f=ab:=by rw[a];simp only[K,EX,EG,DZ,CH]
  rw[b];exact Zh (j6 w e E H K Zp);rw[e,E,K,J]at a;simp only[IX,DJ]at a;refine Zf (j6 w e E H K Zp) ?_;exact q _ () a (AO (Vw (zi @Zp @Zj)) zp)
 rintro _ rfl
 try clear a
 refine Yt (fun(_:Unit)=>st [(2,qW (Zw c d m)),(5,qW (Y6 d x))] []) (λ_=>¬(x.AD=10\/x.AD=11)) (λK1 q=>?_) ?_;cases j:(x.AD==10);cases e:(x.AD==11);refine Zf (j3 j e Zp) ?_;refine q _ () (λh=>?_) (AO (Vw (zi @Zp @Zj)) zp);rcases h with h|h;rw[h]at j;cases j;rw[h]at e;cases e;rw[AF (.inr (zu e))]at C;subst C;cases u:(x.region == -1);exact Zq (j3 (zi j e) u Zp);refine Zf (j4 (zi j e) u Zp Zj) ?_;refine Zc r ?_ (s:=Ra G x.of (aa m.AL.l));rw[W];cases z:(decide (0<=x.of)&&decide (x.of<(aa m.AL.l:Int)));exact Zh z;have n:=z;simp only[BP,CM]at n;obtain⟨k,y,B,T,A,S⟩:=EH n.1 (by rw[m.nv];exact n.2);rw[S];have F:=j7 z B A T Zp Zj Ya;cases g:(y.AD==1);have D:(y.p.AD==1)=ab:=g;rw[D];exact Zh (zi F g);have D:(y.p.AD==1)=ad:=g;rw[D];exact Zh (zi F g);rw[AF (.inl (zu j))]at C;subst C;cases u:(x.region == -1);exact Zq (j3 (j) u Zp);refine Zf (j4 (j) u Zp Zj) ?_;refine Zc r ?_ (s:=Ra G x.of (aa m.AL.l));rw[W];cases z:(decide (0<=x.of)&&decide (x.of<(aa m.AL.l:Int)));exact Zh z;have n:=z;simp only[BP,CM]at n;obtain⟨k,y,B,T,A,S⟩:=EH n.1 (by rw[m.nv];exact n.2);rw[S];have F:=j7 z B A T Zp Zj Ya;cases g:(y.AD==1);have D:(y.p.AD==1)=ab:=g;rw[D];exact Zh (zi F g);have D:(y.p.AD==1)=ad:=g;rw[D];exact Zh (zi F g);intro _ hz;rw[AA hz]at C;subst C;cases u:(x.of == -1);exact Zq (zi u Zp);refine Zf (j3 u Zp Zj) ?_;refine Zc r ?_ (s:=Ra G x.region (aa m.AU.l));rw[DJ];exact Zr
def AAk(G)(q:Yy G)(c d m)(N:m.BF.l.length<1000000)(i:Nat){x}(D:m.AE.l[i]?=ae x)(P:x.name.length<1000000000000000)(O:x.C_.l.length<1000000):Spec () G 125 [Zw c d m,i] Zm (m.p.wayB (m.p.wy i)):=by
 refine Zo 0 81 [.tmp 4] func125 λX=>?_;have M:i<aa m.AE.l:=(DG.1 D).1;rw[Ri D];have F:∀ v:Int,m.p.inV v=(decide (0<=v)&&decide (v<(aa m.AL.l:Int))):=λv=>by rw[PM.inV,m.nv]
 have a:m.p.wayB x.p=(V0 x.name&&(decide (0<=x.AV)&&decide (x.AV<(aa m.AL.l:Int)))&&(decide (0<=x.target)&&decide (x.target<(aa m.AL.l:Int)))&&HJ m.BF.l x.C_.l&&decide (0<=x.after)&&decide (x.after<=65535)&&(x.after==0||decide (aa x.C_.l=0)) &&
  decide (1<=x.AD)&&decide (x.AD<=3)&&decide (aa x.guard<=4096)&&decide (aa x.DT<=4096)):=by rw[<- F,<- F]<;>rfl
 generalize m.p.wayB x.p=e at a⊢;simp only[Zj];refine Z ?_;intro R;refine Zf (j4 D M Z6 Ya) ?_;intro Q;refine BM (Z4 (λo=>o==5||o==2) (l:=[(2,qW (Zw c d m)),(5,qW (Xo d x))]) (m:=[]) ?_ trivial) ?_;refine Zs ?_;exact⟨CS (v:=Zw c d m) zp zp,CS (v:=Xo d x) zp zp⟩;refine Zf (zi Z6 Zj) ?_;refine Zc q ?_ (s:=O3 G q x.name P);cases z:V0 x.name;have b:e=ab:=by rw[a];simp only[z,EX,EG,DZ,CH]
 rw[b];exact Zh (z);refine Zg (zi z Z6) ?_;refine Zc q ?_ (s:=Ra G x.AV (aa m.AL.l));cases y:(decide (0<=x.AV)&&decide (x.AV<(aa m.AL.l:Int)));have b:e=ab:=by rw[a];simp only[y,EX,EG,DZ,CH]
 rw[b];exact Zh (y);refine Zg (zi y Z6) ?_;refine Zc q ?_ (s:=Ra G x.target (aa m.AL.l));cases w:(decide (0<=x.target)&&decide (x.target<(aa m.AL.l:Int)));have b:e=ab:=by rw[a];simp only[w,EX,EG,DZ,CH]
 rw[b];exact Zh (w);refine Zg (j3 w Z6 Zj) ?_;refine Zc q ?_ (s:=Fu G q c.ent d.ent d.ent m x.C_ N O);cases n:HJ m.BF.l x.C_.l;have b:e=ab:=by rw[a];simp only[n,EX,EG,DZ,CH]
 rw[b];exact Zh (n);by_cases J:1<=x.AD
 rotate_left;have A:=zU (x.AD<1);have C:=GC J
 have b:e=ab:=by rw[a];simp only[C,EX,EG,DZ,CH]
 rw[b];exact Zh (j3 n A Z6);have A:=zV (x.AD<1);have C:=EI J;by_cases I:x.AD<=3
 rotate_left;have E:=zU (x.AD>3);have B:=GC I
 have b:e=ab:=by rw[a];simp only[B,EX,EG,DZ,CH]
 rw[b];exact Zh (j4 n A E Z6);have E:=zV (x.AD>3);have B:=EI I;rw[z,y,w,n,C,B]at a;simp only[DJ,IX]at a;refine Xc (j4 n A E Z6) ?_;refine Z0 ?_;have f:=Z6;by_cases H:0<=x.after
 rotate_left;have k:=zV (x.after>=0);have L:=GC H
 have b:e=ab:=by rw[a,L]<;>rfl
 rw[b];exact Zq (zi k f);have k:=zU (x.after>=0);rw[EI H,DJ]at a;cases h:decide (x.after<=65535);have b:e=ab:=by rw[a,h]<;>rfl
 rw[b];exact Zq (j3 k h f);rw[h,DJ]at a;have j:decide (((aa x.guard:Nat):Int)<=4096)=decide (aa x.guard<=4096):=EB.2 zo;have K:decide (((aa x.DT:Nat):Int)<=4096)=decide (aa x.DT<=4096):=EB.2 zo;have t:=ABw (aa x.C_.l);cases g:(x.after==0);cases u:decide (aa x.C_.l=0);have b:e=ab:=by rw[a,g,u]<;>rfl
 rw[b];rw[u]at t;exact Zq (j5 k h g t f);rw[g,u]at a;rw[u]at t;simp only[KG,DJ]at a;rw[a];cases r:decide (aa x.guard<=4096);rw[r]at j;exact Zq (j6 j k h g t f);rw[r]at j;exact Zq (j7 j K k h g t f);rw[g]at a;simp only[LA,DJ]at a;rw[a];cases r:decide (aa x.guard<=4096);rw[r]at j;exact Zq (j5 j k h g f);rw[r]at j;exact Zq (j6 j K k h g f)
def OA(c d e:AH)(m:BR)(ns vs:Sl bS):V:=.agg [m.name,Za c 2 Yw m.vars,Za c 1 V.AB m.BF,Za c 2 Yw m.AU,Za c 8 (Y6 d) m.AL,Za c 8 (Xo d) m.AE,Za e 1 V.AB ns,Za e 1 V.AB vs]
def gW(c d e m a vs):OA c d e m a vs=.agg [m.name,Za c 2 Yw m.vars,Za c 1 V.AB m.BF,Za c 2 Yw m.AU,Za c 8 (Y6 d) m.AL,Za c 8 (Xo d) m.AE,Za e 1 V.AB a,Za e 1 V.AB vs]:=rfl
def l6(g c d e m a vs):(OA c d e m a vs).recol g=OA (g c) (g d) (g e) m a vs:=by simp only[gW,X9,BI,BV,Ua,Ui,N2,N1,N3]
def So(b c d e:AH)(m:BR)(ns vs:Sl bS):V:=.view b (OA c d e m ns vs)
def Wn(b c d e m a vs):So b c d e m a vs=.view b (.agg [m.name,Za c 2 Yw m.vars,Za c 1 V.AB m.BF,Za c 2 Yw m.AU,Za c 8 (Y6 d) m.AL,Za c 8 (Xo d) m.AE,Za e 1 V.AB a,Za e 1 V.AB vs]):=rfl
@[go_sem] def N4(g b c d e m a vs):(So b c d e m a vs).recol g=So (g b) (g c) (g d) (g e) m a vs:=by show(V.view b (OA c d e m a vs)).recol g=_;simp only[V.recol,l6];rfl
def PK(p):∀ y∈(Yw p).cells,y.Im:=λy a=>by simp only[Xj,V.cells,BY,CL,CF]at a;rcases a with rfl|rfl<;>first|exact .int _ _|exact .AB _
def MQ(s):∀ y∈(V.AB s).cells,y.Im:=λy a=>by simp only[V.cells,BY,CL,CF]at a;rw[a];exact .AB _
def bQ(c x):∀ y∈(Y6 c x).cells,y.Im:=λy a=>by simp only[Zp,V.cells,BY,CL,CF]at a;rcases a with rfl|rfl|rfl|rfl|rfl|rfl|rfl|rfl<;>first|exact .int _ _|exact .AB _|exact V1 MQ _
def bP(c x):∀ y∈(Xo c x).cells,y.Im:=λy a=>by simp only[Z6,V.cells,BY,CL,CF]at a;rcases a with rfl|rfl|rfl|rfl|rfl|rfl|rfl|rfl<;>first|exact .int _ _|exact .AB _|exact V1 MQ _
def Lv(b c d e m f vs):(So b c d e m f vs).Im:=.view _ _ λy a=>by simp only[gW,V.cells,BY,CL,CF]at a;rcases a with rfl|rfl|rfl|rfl|rfl|rfl|rfl|rfl;exact .AB _;exact V1 PK _;exact V1 MQ _;exact V1 PK _;exact V1 (bQ d) _;exact V1 (bP d) _;exact V1 MQ _;exact V1 MQ _
def U4(G)(E:Yy G)(b c d e m u vs)(B:m.p.FB)(v:Int)(o:0<=v)(n:v<m.p.AN.length):Spec () G 203 [So b c d e m u vs,v] Zm (m.p.around v):=by refine Zo 0 36 [.tmp 4] func203 λX=>?_;have a:=B.pt o n;obtain⟨k,x,rfl,C,D,A⟩:=EH o n;rw[PM.around];rw[A]at a⊢;simp only[Wn];have f:=j4 D C Zp Ya;refine Zf f ?_;intro F;by_cases l:0<=x.of;have q:=zU (x.of>=0);refine Zf (zi f q) ?_;rw[AF (show 0<=x.p.of from l)]<;>rfl;have q:=zV (x.of>=0);have⟨_,t,s,_⟩:=a.resolve_left (λh=>l h.1);have⟨r,y,j,g,i,z⟩:=Ov t s;rw[AA (show ¬0<=x.p.of from l),z];have j:x.region=(r:Int):=j;refine Zf q ?_;refine Pr (j5 f j i g Xj) E ?_;exact Zr
def Ep(G)(l:Yy G)(b c d e m o vs)(f:m.p.Rt)(v s:Int)(x:0<=v)(u:v<m.p.AN.length):Spec () G 165 [So b c d e m o vs,v,s] Zm (m.p.inB v s):=by
 refine Zo 0 18 [.tmp 6] func165 λX=>?_;refine Z ?_;refine Zc l ?_ (s:=U4 G l _ _ _ _ m o vs f.toFB v x u);refine Z ?_;refine Xw [0,2] [] (fun(w:Int)=>[(1,(m.p.around w))]) (λ_=>[]) (λw=>0<=w/\w<aa m.p.AN/\m.p.inB v s=m.p.inB w s) (λw=>aa (m.p.ups w)) v ⟨x,u,rfl⟩ zp zp ?_;rintro w ⟨w0,n,r⟩ y t;by_cases k:0<=m.p.around w;have j:=zU (m.p.around w>=0);have h:m.p.around w<aa m.p.AN:=by rcases f.FC.DA w w0 n with q|q;omega;exact q.2
 have g:=BU List.length (f.FC.ups_cons w0 n k);rw[CW]at g;have a:=f.FC.inB_up (s:=s) w0 n k;cases i:(m.p.around w==s);rw[i,CH]at a;refine Zf (zi j i) ?_;refine Zc l ?_ (s:=U4 G l _ _ _ _ m o vs f.toFB (m.p.around w) k h);refine Z ?_;exact t _ ⟨m.p.around w,zo,⟨k,h,by rw[r,a]⟩,AO zp zp⟩;rw[i,LA]at a;rw[r,a];exact Zq (zi j i);have j:=zV (m.p.around w>=0);rw[r,PM.inB_nil zo];exact Zq j
def En(G)(l:Yy G)(b c d e m o vs)(g:m.p.Rt)(v s:Int)(H:0<=v)(F:v<m.p.AN.length)(C:0<=s):Spec () G 166 [So b c d e m o vs,v,s] Zm (m.p.regU v s):=by
 refine Zo 0 30 [.tmp 6] func166 λX=>?_;refine Z ?_;refine Xw [0,2] [] (fun(w:Int)=>[(1,w)]) (λ_=>[]) (λw=>(w = -1/\m.p.regU v s = -1)\/(0<=w/\w<aa m.p.AN/\m.p.regU v s=m.p.regU w s)) (λw=>if w<0 then 0 else aa (m.p.ups w)+1) v (.inr ⟨H,F,rfl⟩) zp zp ?_;rintro w f I i;rcases f with ⟨rfl,f⟩|⟨w0,a,f⟩;rw[f];exact Zr;have A:=zU (w>=0);refine Zf A ?_;refine Zc l ?_ (s:=U4 G l _ _ _ _ m o vs g.toFB w w0 a);by_cases j:m.p.around w=s;rw[f,PM.BW.regU_at j];have⟨k,x,r,D,E,B⟩:=EH w0 a;rw[B];subst r;have n:(m.p.around (k:Int) != s)=ab:=by simp[j]
 have z:=zV ((k:Int)<0);exact Zh (j7 n z E D Zp Wn Ya);have n:(m.p.around w != s)=ad:=zu j;refine Zg n ?_;refine Zc l ?_ (s:=U4 G l _ _ _ _ m o vs g.toFB w w0 a);refine Z ?_;by_cases y:0<=m.p.around w;have u:m.p.around w<aa m.p.AN:=by rcases g.FC.DA w w0 a with q|q;omega;exact q.2
 have h:=BU List.length (g.FC.ups_cons w0 a y);rw[CW]at h;refine i _ ⟨m.p.around w,by simp only[AA (show ¬m.p.around w<0 by omega),AA (show ¬w<0 by omega)];omega,.inr ⟨y,u,by rw[f,g.FC.regU_up w0 a y j]⟩,AO zp zp⟩;have t:m.p.around w = -1:=by rcases g.FC.DA w w0 a with q|q;exact q;omega
 rw[t];refine i _ ⟨-1,by simp only[AA (show ¬w<0 by omega)];exact PB _,.inl ⟨rfl,by rw[f,PM.regU_nil zo C]⟩,AO zp zp⟩
def Em(G)(E:Yy G)(b c d e m z vs)(h:m.p.Rt)(v r:Int)(J:0<=v)(I:v<m.p.AN.length):Spec () G 160 [So b c d e m z vs,v,r] Zm (m.p.withinB v r):=by
 refine Zo 0 27 [.tmp 6] func160 λX=>?_;refine Z ?_;refine Xw [0,2] [] (fun(w:Int)=>[(1,w)]) (λ_=>[]) (λw=>(w = -1/\m.p.withinB v r=ab)\/(0<=w/\w<aa m.p.AN/\m.p.withinB v r=m.p.withinB w r)) (λw=>if w<0 then 0 else aa (m.p.ups w)+1) v (.inr ⟨J,I,rfl⟩) zp zp ?_;rintro w f L j;rcases f with ⟨rfl,f⟩|⟨w0,a,f⟩;rw[f];exact Zr;have K:=zU (w>=0);have⟨k,x,g,C,D,B⟩:=EH w0 a;by_cases l:x.region=r;have o:(x.region != r)=ab:=by simp[l]
 have H:m.p.withinB w r=ad:=by rw[PM.withinB,HR,B,show(x.p.region==r)=ad from CX.2 l,LA]
 rw[f,H];subst g;have n:=zU ((k:Int)>=0);exact Zq (j7 n o D C Zp Wn Ya);have o:(x.region != r)=ad:=zu l;have A:((m.p.vx w).region==r)=ab:=by rw[B];exact FD.2 l
 subst g;have n:=zU ((k:Int)>=0);refine Zf (j7 n o D C Zp Wn Ya) ?_;refine Zc E ?_ (s:=U4 G E _ _ _ _ m z vs h.toFB k w0 a);refine Z ?_;by_cases y:0<=m.p.around k;have F:=a;have u:m.p.around k<aa m.p.AN:=by rcases h.FC.DA k w0 a with q|q;omega;exact q.2
 have i:=BU List.length (h.FC.ups_cons w0 a y);rw[CW]at i;refine j _ ⟨m.p.around k,by simp only[AA (show ¬m.p.around k<0 by omega),AA (show ¬(k:Int)<0 by omega)];omega,.inr ⟨y,u,by rw[f,h.FC.withinB_up w0 a y,A,CH]⟩,AO zp zp⟩;have t:m.p.around k = -1:=by rcases h.FC.DA k w0 a with q|q;exact q;omega
 rw[t];refine j _ ⟨-1,by simp only[AA (show ¬(k:Int)<0 by omega)];exact PB _,.inl ⟨rfl,by rw[f,PM.withinB_nil zo,A]⟩,AO zp zp⟩
def ACU(b c d m):(V.view b (Zw c d m)).Im:=.view _ _ λy a=>by simp only[Zj,V.cells,BY,CL,CF]at a;rcases a with rfl|rfl|rfl|rfl|rfl|rfl;exact .AB _;exact V1 PK _;exact V1 MQ _;exact V1 PK _;exact V1 (bQ d) _;exact V1 (bP d) _
def AAh(G)(b:CR G)(c d m)(e:m.name.length<1000000000000000):Spec () G 79 [Zw c d m] Zm (T1 (m.p.ruleF 0)):=by
 have g:=b.ok;refine Zo 0 9 [.cell 2 151] func79 λX=>?_;have f:m.p.ruleF 0=if Tc m.name=2 then(0,0,0)else(1,0,130):=rfl;rw[f];simp only[Zj];refine Z ?_;intro j i;refine Z ?_;refine Zc g ?_ (s:=Pb G b m.name e);by_cases h:Tc m.name=2;rw[AF h];have a:((Tc m.name:Int) != 2)=ab:=by simp[h]
 exact Zh a;rw[AA h];have a:((Tc m.name:Int) != 2)=ad:=by have:¬(Tc m.name:Int)=2:=zo;simpa using this
 exact Zh a
def AAR(G)(g:CR G)(c d m)(b:EM m):Spec () G 80 [Zw c d m] Zm (T1 (m.p.ruleF 1)):=by have e:=g.ok;refine Zo 0 7 [.cell 2 151] func80 λX=>?_;have h:m.p.ruleF 1=Wc 2 64 m.p.varB (aa m.vars.l):=rfl;rw[h];have j:=b.nv;simp only[Zj];refine Z ?_;intro n k;refine qF 1 [2] [2] 1 (Zw c d m) ?_;refine Zf Zj ?_;refine Zn e ?_ (s:=l8 G e c.ent 2 64 m.vars zo (f:=139) (cap:=[.view .old (Zw c.ent d.ent m)]) (p:=m.p.varB) ⟨zk,RC c d m,λi x a=>AAE G g .old c.ent d.ent m zo i a (b.var x (DY a))⟩);generalize Wc 2 64 m.p.varB (aa m.vars.l)=r;simp only[T1];refine Zs ?_;exact Zr
def AAD(G)(g:CR G)(c d m)(b:EM m):Spec () G 81 [Zw c d m] Zm (T1 (m.p.ruleF 2)):=by have e:=g.ok;refine Zo 0 7 [.cell 2 151] func81 λX=>?_;have h:m.p.ruleF 2=Wc 3 64 m.p.signalB (aa m.BF.l):=rfl;rw[h];have j:=b.ne;simp only[Zj];refine Z ?_;intro n k;refine qF 1 [2] [2] 1 (Zw c d m) ?_;refine Zf Zj ?_;refine Zn e ?_ (s:=mj G e c.ent 3 64 m.BF zo (f:=143) (cap:=[.view .old (Zw c.ent d.ent m)]) (p:=m.p.signalB) ⟨zk,RC c d m,λi x a=>AAV G g .old c.ent d.ent m zo i a (b.ev x (DY a))⟩);generalize Wc 3 64 m.p.signalB (aa m.BF.l)=r;simp only[T1];refine Zs ?_;exact Zr
def AAU(G)(j:CR G)(c d m)(b:EM m):Spec () G 82 [Zw c d m] Zm (T1 (m.p.ruleF 3)):=by
 have g:=j.ok;refine Zo 0 12 [.cell 2 151] func82 λX=>?_;have k:m.p.ruleF 3=if m.AU.l=[]then(4,0,130)else Wc 4 512 m.p.regionB (aa m.AU.l):=rfl;rw[k];have n:=b.nr;simp only[Zj];refine Z ?_;intro u t;refine qF 1 [2] [2] 1 (Zw c d m) ?_;by_cases h:m.AU.l=[];rw[AF h];have q:(((aa m.AU.l:Nat):Int)==0)=ad:=by rw[h]<;>rfl
 exact Zq (zi q Zj);rw[AA h];have q:(((aa m.AU.l:Nat):Int)==0)=ab:=by have:aa m.AU.l≠0:=λe=>h (GL.1 e);have:¬((aa m.AU.l:Nat):Int)=0:=zo;simpa using this
 refine Zf (zi q Zj) ?_;refine Zn g ?_ (s:=nK G g c.ent 4 512 m.AU zo (f:=146) (cap:=[.view .old (Zw c.ent d.ent m)]) (p:=m.p.regionB) ⟨zk,RC c d m,λi x a=>AAm G j .old c.ent d.ent m i a (b.rg x (DY a))⟩);generalize Wc 4 512 m.p.regionB (aa m.AU.l)=r;simp only[T1];refine Zs ?_;exact Zr
def zh(G)(g:CR G)(c d m)(a:EM m):Spec () G 83 [Zw c d m] Zm (T1 (m.p.ruleF 4)):=by
 have e:=g.ok;refine Zo 0 7 [.cell 2 151] func83 λX=>?_;have h:m.p.ruleF 4=Wc 5 512 (λi=>m.p.vertexB (m.p.vx i)) (aa m.AL.l):=by show Wc 5 512 _ (aa m.p.AN)=_;rw[m.nv]
 rw[h];have j:=a.nx;have k:=a.ne;simp only[Zj];refine Z ?_;intro q n;refine qF 1 [2] [2] 1 (Zw c d m) ?_;refine Zf Zj ?_;refine Zn e ?_ (s:=Gx G e c.ent d.ent 5 512 m.AL zo (f:=150) (cap:=[.view .old (Zw c.ent d.ent m)]) (p:=λi=>m.p.vertexB (m.p.vx i)) ⟨zk,RC c d m,λi x b=>by have⟨k1,k2,k3⟩:=a.vt x (DY b);exact zj G g .old c.ent d.ent _ m zo i b k1 k2 k3⟩)
 generalize Wc 5 512 (λi=>m.p.vertexB (m.p.vx i)) (aa m.AL.l)=r;simp only[T1];refine Zs ?_;exact Zr
def ABJ(G)(j:CR G)(c d m)(g:EM m)(e:m.p.FB):Spec () G 84 [Zw c d m] Zm (T1 (m.p.ruleF 5)):=by
 have a:=j.ok;refine Zo 0 7 [.cell 2 151] func84 λX=>?_;have h:m.p.ruleF 5=Wc 5 512 m.p.deepB (aa m.AL.l):=by show Wc 5 512 _ (aa m.p.AN)=_;rw[m.nv]
 rw[h];have k:=g.nx;simp only[Zj];refine Z ?_;intro q n;refine qF 1 [2] [2] 1 (Zw c d m) ?_;refine Zf Zj ?_;refine Zn a ?_ (s:=Gx G a c.ent d.ent 5 512 m.AL zo (f:=153) (cap:=[.view .old (Zw c.ent d.ent m)]) (p:=m.p.deepB) ⟨zk,RC c d m,λi x b=>yl G a .old c.ent d.ent _ m e i b⟩);generalize Wc 5 512 m.p.deepB (aa m.AL.l)=r;simp only[T1];refine Zs ?_;exact Zr
def ACk(c d:AH)(m):[V.view .old (.func (.func 155) [] [.view .old (Zw c.ent d.ent m)]),.view .old (Zw c.ent d.ent m)].map (V.recol AH.ent)=[V.view .old (.func (.func 155) [] [.view .old (Zw c.ent d.ent m)]),.view .old (Zw c.ent d.ent m)]:=by simp only[BI,BV,V.recol,Yl,Kz,Eg];rfl
def AAA(G)(g:CR G)(c d m)(a:EM m):Spec () G 85 [Zw c d m] Zm (T1 (m.p.ruleF 6)):=by
 have e:=g.ok;refine Zo 0 9 [.cell 2 151] func85 λX=>?_;have h:m.p.ruleF 6=Wc 6 512 (λi=>m.p.wayB (m.p.wy i)) (aa m.AE.l):=by show Wc 6 512 _ (aa m.p.AE)=_;rw[m.nw]
 rw[h];have j:=a.nw;have k:=a.ne;simp only[Zj];refine Z ?_;intro t q;refine qF 1 [2] [2] 1 (Zw c d m) ?_;refine Z ?_;intro n;refine qF 3 [1,2] [2] 3 (.func (.func 155) [] [qW (Zw c d m)]) ?_;refine Zf Zj ?_;refine Zn e ?_ (s:=mQ G e c.ent d.ent 6 512 m.AE zo (f:=157) (cap:=[.view .old (.func (.func 155) [] [.view .old (Zw c.ent d.ent m)]),.view .old (Zw c.ent d.ent m)]) (p:=λi=>m.p.wayB (m.p.wy i)) ⟨zk,ACk c d m,λi x b=>by have⟨k1,k2⟩:=a.wy x (DY b);exact zE G g .old .old .old c.ent d.ent c.ent d.ent _ m zo i b k1 k2⟩)
 generalize Wc 6 512 (λi=>m.p.wayB (m.p.wy i)) (aa m.AE.l)=r;simp only[T1];refine Zs ?_;exact Zr
def Gc(rs:Nat->Nat×Int×Int)(n:Nat):Nat×Int×Int:=match(aE n).find? (λi=>(rs i).1 != 0)with|some i=>rs i|none=>(0,0,0)
def Vd{a n i}(hi:i<n)(h:∀ j,j<i->(a j).1=0)(c:(a i).1≠0):Gc a n=a i:=by
 have:(aE n).find? (λi=>(a i).1 != 0)=ae i:=by rw[List.find?_range_eq_some];exact⟨zu c,DC.2 hi,λj b=>by simp[h j b]⟩
 rw[Gc,this]
def Jr{a n}(h:∀ j,j<n->(a j).1=0):Gc a n=(0,0,0):=by rw[Gc,MG.2 (λj b=>by simp[h j (DC.1 b)])]
def tq{part most p n}(a:part≠0)(h:(Wc part most p n).1=0):Wc part most p n=(0,0,0):=by rw[Wc]at h⊢;rcases b:(aE n).find? (λi=>i==most || !p i) with _|i;rfl;rw[b]at h;exact absurd h a
def C3(m:PM):m.rightP=Gc m.ruleF 7:=by
 by_cases a:(m.ruleF 0).1=0
 rotate_left;rw[Vd (i:=0) zd (λj b=>absurd b (FH _)) a,PM.rightP,Kg,AF a]
 by_cases c:(m.ruleF 1).1=0
 rotate_left
 rw[Vd (i:=1) zd (λj b=>by have:j=0:=zo;rw[this];exact a) c,PM.rightP,Kg,AA (λh=>h a),Kg,AF c]
 by_cases h2:(m.ruleF 2).1=0
 rotate_left
 rw[Vd (i:=2) zd (λj b=>by have:j=0\/j=1:=zo;rcases this with h|h<;>rw[h]<;>assumption) h2,PM.rightP,Kg,AA (λh=>h a),Kg,AA (λh=>h c),Kg,AF h2]
 by_cases d:(m.ruleF 3).1=0
 rotate_left
 rw[Vd (i:=3) zd (λj b=>by have:j=0\/j=1\/j=2:=zo;rcases this with h|h|h<;>rw[h]<;>assumption) d,PM.rightP,Kg,AA (λh=>h a),Kg,AA (λh=>h c),Kg,AA (λh=>h h2),Kg,AF d]
 by_cases f:(m.ruleF 4).1=0
 rotate_left
 rw[Vd (i:=4) zd (λj b=>by have:j=0\/j=1\/j=2\/j=3:=zo;rcases this with h|h|h|h<;>rw[h]<;>assumption) f,PM.rightP,Kg,AA (λh=>h a),Kg,AA (λh=>h c),Kg,AA (λh=>h h2),Kg,AA (λh=>h d),Kg,AF f]
 by_cases g:(m.ruleF 5).1=0
 rotate_left
 rw[Vd (i:=5) zd (λj b=>by have:j=0\/j=1\/j=2\/j=3\/j=4:=zo;rcases this with h|h|h|h|h<;>rw[h]<;>assumption) g,PM.rightP,Kg,AA (λh=>h a),Kg,AA (λh=>h c),Kg,AA (λh=>h h2),Kg,AA (λh=>h d),Kg,AA (λh=>h f),Kg,AF g]
 have e:m.rightP=m.ruleF 6:=by rw[PM.rightP,Kg,AA (λh=>h a),Kg,AA (λh=>h c),Kg,AA (λh=>h h2),Kg,AA (λh=>h d),Kg,AA (λh=>h f),Kg,AA (λh=>h g)]
 rw[e];by_cases k:(m.ruleF 6).1=0
 rotate_left
 rw[Vd (i:=6) zd (λj b=>by have:j=0\/j=1\/j=2\/j=3\/j=4\/j=5:=zo;rcases this with h|h|h|h|h|h<;>rw[h]<;>assumption) k]
 rw[Jr (λj b=>by have:j=0\/j=1\/j=2\/j=3\/j=4\/j=5\/j=6:=zo;rcases this with h|h|h|h|h|h|h<;>rw[h]<;>assumption)]
 exact tq zd (show(Wc 6 512 (λi=>m.wayB (m.wy i)) (aa m.AE)).1=0 from k)
def Hc(c d:AH)(m:BR)(f:FuncId):V:=.func (.func f) [Zw c d m] []
def ZB(c d m f):Hc c d m f=.func (.func f) [Zw c d m] []:=rfl
def AA9(g c d m f):(Hc c d m f).recol g=Hc (g c) (g d) m f:=by simp only[ZB,V.recol,Yl,BI,BV,Kz]
def wu(G)(B:Yy G)(c1 c d m l)(D:l.l.length<1000000)(g)(h:∀ k f,l.l[k]?=ae f->(∀ j,j<k->(g j).1=0)->Yf Tryz.prog f=ad/\Spec () G f [Zw c.ent d.ent m] Zm (T1 (g k))):Spec () G 78 [Za c1 1 (Hc c d m) l] Zm (T1 (Gc g l.l.length)):=by
 refine Zo 0 20 [.cell 2 151] func78 λX=>?_;refine Z ?_;intro I;refine Z ?_;refine Z8 [2,6,7] [2] (aa l.l) (λk (_:Unit)=>[(8,k)]) (λ_ _=>[]) (λk _=>∀ j,j<k->(g j).1=0) 0 () qz (λi h=>absurd h (FH _)) zp zp ?_;intro k _ E o J y;by_cases b:k<aa l.l;have a:=zU ((k:Int)<(aa l.l:Int));have w:=AY b;generalize l.l[k]=x at w;have z:=wQ ((k:Int)+1);have⟨A,n⟩:=h k x w o;refine Zf (j3 a w ZB) ?_;refine Zn B ?_ (e:=A) (s:=n);generalize t:g k=r at n;simp only[T1];refine Zs ?_;intro H;by_cases p:r.1=0;have q:(((r.1:Nat):Int) != 0)=ab:=by simp[p]
 refine Zf (zi q z) ?_;refine y _ ⟨b,(),λj F=>?_,AO zp zp⟩;by_cases C:j=k;rw[C,t];exact p;exact o j zo;have q:(((r.1:Nat):Int) != 0)=ad:=by have:¬((r.1:Nat):Int)=0:=zo;simpa using this
 rw[Vd b o (by rw[t];exact p),t];exact Zq q;have u:k=aa l.l:=zo;subst u;have a:decide ((aa l.l:Int)<(aa l.l:Int))=ab:=zS;rw[Jr o];exact Zq a
def ACA(c d m f):∀ y∈(Hc c d m f).cells,y.Im:=λy b=>by simp only[ZB,V.cells,BY,CL,CF]at b;rw[b];refine .func _ _ _ (λx a=>?_) (λx a=>by cases a);rw[CP.1 a];cases ACU .old c d m with|view _ _ h=>exact .agg _ h
def rgF:List FuncId:=[79,80,81,82,83,84,85]
def Rd.rgF{H g c d m}(h:H 20=qC g 0 (flat (rgF.map (Hc c d m)))):Rd H (.A_ 20 g 0 7 1) (Za .old 1 (Hc c.ent d.ent m) (.mk ab Go.Hs.rgF)):=
 LO (l:=Go.Hs.rgF) (off:=0) (n:=7) (f:=Hc c d m) (f':=Hc c.ent d.ent m) h BE (ACA c d m) (λf=>AA9 _ c d m f) zd
def AB_(r):(T1 r).Fl:=.agg _ λy a=>by simp only[BY,CL,CF]at a;rcases a with rfl|rfl|rfl<;>exact .int _ _
def kl(G)(a:CR G)(c d m)(b:EM m):Spec () G 43 [Zw c d m] Zm (V.tuple [.int .u8 m.p.rightP.1,qI m.p.rightP.2.1,qI m.p.rightP.2.2]):=by
 have e:=a.ok;refine Zo 0 28 [.tmp 2,.tmp 3,.tmp 4] func43 λX=>?_;rw[C3];simp only[Zj];refine Z ?_;intro i;refine Z ?_;intro g;refine Zs ?_;refine EZ e [Za .old 1 (Hc c.ent d.ent m) (.mk ab rgF)] zk ⟨Rd.rgF zp,AJ⟩ ?_;refine(wu G e .old c.ent d.ent m (.mk ab rgF) zd m.p.ruleF ?_).mono ?_
 .intro k f hk h0;rw[Eg,Eg]
  match k,hk with
  |0,hk=>obtain rfl:=EY hk;exact⟨zk,AAh G a _ _ m b.nm⟩
  |1,hk=>obtain rfl:=EY hk;exact⟨zk,AAR G a _ _ m b⟩
  |2,hk=>obtain rfl:=EY hk;exact⟨zk,AAD G a _ _ m b⟩
  |3,hk=>obtain rfl:=EY hk;exact⟨zk,AAU G a _ _ m b⟩
  |4,hk=>obtain rfl:=EY hk;exact⟨zk,zh G a _ _ m b⟩
  |5,hk=>obtain rfl:=EY hk;exact⟨zk,ABJ G a _ _ m b (PM.rt_vt (h0 3 zd) (h0 4 zd))⟩
  |6,hk=>obtain rfl:=EY hk;exact⟨zk,AAA G a _ _ m b⟩
  |k+7,hk=>cases hk
 rintro _ _ rfl;refine⟨AB_ _,?_⟩;show _;simp only[show aa (Sl.mk ab rgF).l=7 from rfl];generalize Gc m.p.ruleF 7=r;simp only[T1];refine Zs ?_;intro h;refine ZT e ?_;exact Zr
def oQ(G)(b:Yy G)(c d m)(a:EM m)(i)(hi:i<m.vars.l.length):Spec () G 64 [Zw c d m,qI 2,i] Zm (m.p.varB i):=by refine Zo 0 53 [.tmp 6] func64 λX=>?_;simp only[Zj];refine Z ?_;intro e;refine Z ?_;refine Zc b ?_ (s:=ABM G b c.ent d.ent m (by have:=a.nv;omega) i (AY hi) (a.var _ (BT hi)));exact Zr
def n9(G)(f:Yy G)(c d m)(h:EM m)(i)(hi:i<m.BF.l.length):Spec () G 64 [Zw c d m,qI 3,i] Zm (m.p.signalB i):=by
 refine Zo 0 53 [.tmp 6] func64 λX=>?_;have e:=AY hi;have g:=h.ev _ (BT hi);generalize m.BF.l[i]=x at e g;have r:=h.ne;have k:m.p.BF.getD i []=x:=by show m.BF.l.getD i []=x;rw[DK,e]<;>rfl
 have n:m.p.signalB i=((Tc x==2) && !(m.BF.l.take i).contains x):=by rw[PM.signalB,k]<;>rfl
 rw[n];simp only[Zj];refine Z ?_;intro s;refine qF 3 [1,2] [] 3 (Zw c d m) ?_;refine Z ?_;have a:=Ft G f x g;have b:=λc=>K6 G c x (m.BF.sub 0 i) (by rw[Nj];simp;omega);rw[Nj]at b;cases j:(Tc x==2)
 .rw[j]at a
  repeat first
   |refine Zz ?_|refine BK ?_|refine W7 rfl ?_|refine Xh rfl ?_|(refine EP ?_;simp -implicitDefEqProofs only[go_sem,seval])|(refine FO ?_;simp -implicitDefEqProofs only[go_sem,seval])
  refine Zv ⟨λi=>if i=5 then .bool ab else .top,λ_=>.pure⟩ zk f zk zk ?_;refine Xc (zi e @Zj) ?_;refine⟨⟨zk,by refine Zs ?_;exact a.mono (by rintro _ _ rfl;rfl)⟩,?_⟩;exact Zr
 rw[j]at a;generalize(m.BF.l.take i).contains x=q at b;cases q
 .repeat first
   |refine Zz ?_|refine BK ?_|refine W7 rfl ?_|refine Xh rfl ?_|(refine EP ?_;simp -implicitDefEqProofs only[go_sem,seval])|(refine FO ?_;simp -implicitDefEqProofs only[go_sem,seval])
  refine Zv ⟨λi=>if i=5 then .bool ad else if i=16 then .bool ab else .top,λ_=>.pure⟩ zk f zk zk ?_;simp -implicitDefEqProofs only[go_sem,seval,e,Zj,CB,LL hi];refine⟨⟨zk,by refine Zs ?_;exact a.mono (by rintro _ _ rfl;rfl)⟩,⟨zk,by refine Zs ?_;exact(b _).mono (by rintro _ _ rfl;rfl)⟩,?_⟩;exact Zr
 .repeat first
   |refine Zz ?_|refine BK ?_|refine W7 rfl ?_|refine Xh rfl ?_|(refine EP ?_;simp -implicitDefEqProofs only[go_sem,seval])|(refine FO ?_;simp -implicitDefEqProofs only[go_sem,seval])
  refine Zv ⟨λi=>if i=5 then .bool ad else if i=16 then .bool ad else .top,λ_=>.pure⟩ zk f zk zk ?_;simp -implicitDefEqProofs only[go_sem,seval,e,Zj,CB,LL hi];refine⟨⟨zk,by refine Zs ?_;exact a.mono (by rintro _ _ rfl;rfl)⟩,⟨zk,by refine Zs ?_;exact(b _).mono (by rintro _ _ rfl;rfl)⟩,?_⟩;exact Zr
def nT(G)(a:Yy G)(c d m)(b:EM m)(i)(hi:i<m.AU.l.length):Spec () G 64 [Zw c d m,qI 4,i] Zm (m.p.regionB i):=by refine Zo 0 53 [.tmp 6] func64 λX=>?_;simp only[Zj];refine Z ?_;intro e;refine Z ?_;refine Zc a ?_ (s:=ly G a c.ent d.ent m i (AY hi) (b.rg _ (BT hi)));exact Zr
def mz(G)(b:Yy G)(c d m)(a:EM m)(i)(hi:i<m.AL.l.length):Spec () G 64 [Zw c d m,qI 5,i] Zm (m.p.vertexB (m.p.vx i)):=by refine Zo 0 53 [.tmp 6] func64 λX=>?_;simp only[Zj];refine Z ?_;intro h;refine Z ?_;have⟨g,f,e⟩:=a.vt _ (BT hi);refine Zc b ?_ (s:=AA4 G b c.ent d.ent m (by have:=a.ne;omega) i (AY hi) g f e);exact Zr
def mY(G)(a:Yy G)(c d m)(b:m.p.FB)(i)(hi:i<m.AL.l.length):Spec () G 64 [Zw c d m,qI 6,i] Zm (m.p.deepB i):=by refine Zo 0 53 [.tmp 6] func64 λX=>?_;simp only[Zj];refine Z ?_;intro f;refine Z ?_;have e:m.p.deepB i=decide (((m.p.depth i:Nat):Int)<=64):=EB.2 zo;rw[e];refine Zc a ?_ (s:=oz G a c.ent d.ent m b i zo (by rw[m.nv];omega));exact Zr
def mE(G)(b:Yy G)(c d m)(a:EM m)(i)(hi:i<m.AE.l.length):Spec () G 64 [Zw c d m,qI 7,i] Zm (m.p.wayB (m.p.wy i)):=by refine Zo 0 53 [.tmp 6] func64 λX=>?_;simp only[Zj];refine Z ?_;intro g;refine Z ?_;have⟨f,e⟩:=a.wy _ (BT hi);refine Zc b ?_ (s:=AAk G b c.ent d.ent m (by have:=a.ne;omega) i (AY hi) f e);exact Zr
def RD(m:BR):iS:=[0,0,aa m.vars.l,aa m.BF.l,aa m.AU.l,aa m.AL.l,aa m.AL.l,aa m.AE.l]
def SH:iS:=[0,0,64,64,512,512,512,512]
def SM:iS:=[0,0,2,3,4,5,5,6]
structure lm(G:Nat->V)(m:BR)(k n mo pt:Nat)(p:Nat->Bool):Prop where
 hn:(RD m)[k]?=ae (n:Int)
 hm:SH[k]?=ae (mo:Int)
 hp:SM[k]?=ae (pt:Int)
 sc:m.p.ruleF (k-1)=Wc pt mo p n
 lt:n<=600
 pz:pt≠0
 mlt:mo<=512
 may:∀ c d i,i<n->Spec Tryz.prog G 64 [Zw c d m,.int .i64 k,.int .i64 i] Zm (λv _=>v=.bool (p i))
def ACn(G)(e:Yy G)(m)(b:EM m)(k)(h2:2<=k)(o:k<8)(f:∀ j,j<k-1->(m.p.ruleF j).1=0)(g:k=4->m.AU.l≠[]):∃ n mo pt p,lm G m k n mo pt p:=by have h:k=2\/k=3\/k=4\/k=5\/k=6\/k=7:=zo;rcases h with rfl|rfl|rfl|rfl|rfl|rfl;exact⟨_,_,_,_,rfl,rfl,rfl,rfl,b.nv,zd,zd,λc d i a=>oQ G e c d m b i a⟩;exact⟨_,_,_,_,rfl,rfl,rfl,rfl,b.ne,zd,zd,λc d i a=>n9 G e c d m b i a⟩;exact⟨_,_,_,_,rfl,rfl,rfl,AA (g rfl),b.nr,zd,zd,λc d i a=>nT G e c d m b i a⟩;exact⟨_,_,_,_,rfl,rfl,rfl,by rw[<- m.nv]<;>rfl,b.nx,zd,zd,λc d i a=>mz G e c d m b i a⟩;exact⟨_,_,_,_,rfl,rfl,rfl,by rw[<- m.nv]<;>rfl,b.nx,zd,zd,λc d i a=>mY G e c d m (PM.rt_vt (f 3 zd) (f 4 zd)) i a⟩;exact⟨_,_,_,_,rfl,rfl,rfl,by rw[<- m.nw]<;>rfl,b.nw,zd,zd,λc d i a=>mE G e c d m b i a⟩
def tk(G)(I:Yy G)(c d m)(Y:EM m):Spec () G 31 [Zw c d m] Zm (V.tuple [.int .u8 m.p.rightP.1,qI m.p.rightP.2.1,qI m.p.rightP.2.2]):=by
 refine Zo 0 76 [.tmp 2,.tmp 3,.tmp 4] func31 λX=>?_;rw[C3];have C:m.p.ruleF 0=if Tc m.name=2 then(0,0,0)else(1,0,130):=rfl;simp only[Zj];refine Z ?_;intro g1;refine Z ?_;refine Zc I ?_ (s:=Ft G I m.name Y.nm);cases q:(Tc m.name==2);rw[AA (zu q)]at C;rw[Vd (i:=0) zd (λj x=>absurd x (FH _)) (by rw[C];decide),C];exact Zh q;rw[AF (zu q)]at C;refine Zg q ?_;intro U;refine Z ?_;intro T;refine Z ?_;intro S;refine Z ?_;refine Y2 (λo=>o==1||o==32||o==33||o==34) [8] [] (l:=[(1,qW (Zw c d m)),(5,qE (.mk ab (RD m))),(6,qE (.mk ab SH)),(7,Za .new 1 (V.int .u8) (.mk ab SM))]) (m:=[]) ?_ trivial ?_;refine Zs ?_;exact⟨CS (v:=Zw c d m) (c:=.new) (fz:=0) zp zp,Xm (f:=()) (l:=RD m) (m:=1) (g:=U) (fz:=0) (c:=.new) rfl zp (λ_=>rfl),Xm (f:=()) (l:=SH) (m:=1) (g:=T) (fz:=0) (c:=.new) rfl zp (λ_=>rfl),Xm (f:=V.int .u8) (l:=SM) (m:=1) (g:=S) (fz:=0) (c:=.new) rfl zp (λ_=>rfl)⟩;refine Z8 [1,5,6,7] [] 8 (λk (_:Unit)=>[(8,k)]) (λ_ _=>[]) (λk _=>2<=k/\∀ j,j<k-1->(m.p.ruleF j).1=0) 2 () zd ⟨BO _,λj x=>by obtain rfl:j=0:=zo;rw[C]⟩ zp zp ?_
 rintro k _ hk ⟨N,y⟩ L3 Q;by_cases r:k<8
 rotate_left;obtain rfl:k=8:=zo;rw[Jr (λj x=>y j zo)];exact Zr;have M:=zU ((k:Int)<8);have w1:=wQ ((k:Int)+1);refine Ym M ?_;refine Z0 ?_;refine Zz ?_;refine BK ?_;refine Yt (fun(_:Unit)=>st [(1,qW (Zw c d m)),(5,qE (.mk ab (RD m))),(6,qE (.mk ab SH)),(7,Za .new 1 (V.int .u8) (.mk ab SM)),(8,k)] []) (λ_=>k=4->m.AU.l≠[]) (λK1 B=>?_) ?_
 by_cases h4:k=4;have E:((k:Int)==4)=ad:=by simp[h4]
 by_cases F:m.AU.l=[];have L:(((aa m.AU.l:Nat):Int)==0)=ad:=by rw[F]<;>rfl
 have hF:m.p.ruleF 3=(4,0,130):=AF F;rw[Vd (i:=3) zd (λj x=>y j zo) (by rw[hF];decide),hF];exact Zq (j3 E L Zj);have L:(((aa m.AU.l:Nat):Int)==0)=ab:=by have:aa m.AU.l≠0:=λe=>F (GL.1 e);have:¬((aa m.AU.l:Nat):Int)=0:=zo;simpa using this
 refine Zf (j3 E L Zj) ?_;exact B _ () (λ_=>F) (AO (Vw Zj) zp);have E:((k:Int)==4)=ab:=by have:¬(k:Int)=4:=zo;simpa using this
 refine Zf E ?_;exact B _ () (λh=>absurd h h4) qs;intro _ hz;have⟨n,z,pt,p,w⟩:=ACn G I m Y k N r y hz;have f:=j7 w.hn w.hm w.hp (show k<aa (RD m) from r) (show k<aa SH from r) (show k<aa SM from r) Ya;refine Z ?_;refine Z8 [1,5,6,7,8] [] n (λi (_:Unit)=>[(9,i)]) (λ_ _=>[]) (λi _=>∀ j,j<i->j≠z/\p j=ad) 0 () qz (λi h=>absurd h (FH _)) zp zp ?_;rintro i _ hi H L9 P;have hnl:=w.lt;have b:=w.sc;have u:k-1<7:=zo;by_cases t:i<n;have a:=zU ((i:Int)<(n:Int));have w2:=wQ ((i:Int)+1);have J:=EI t;by_cases A:i=z;have D:=Vs (part:=pt) t H (.inl A);rw[Vd u y (by rw[b,D];exact w.pz),b,D,AF A];have K:((i:Int)==(z:Int))=ad:=by simp[A]
 exact Zq (j4 a J K f);have K:((i:Int)==(z:Int))=ab:=by have:¬(i:Int)=(z:Int):=zo;simpa using this
 refine Zf (j5 a J K Zj f) ?_;refine Zc I ?_ (s:=w.may c.ent d.ent i t);cases W:p i;have D:=Vs (part:=pt) t H (.inr W);rw[Vd u y (by rw[b,D];exact w.pz),b,D,AA A];exact Zq f;refine Zf w2 ?_;refine P _ ⟨t,(),λj x=>?_,AO (Vw Zj) zp⟩;by_cases R:j=i;rw[R];exact⟨A,W⟩;exact H j zo;have O:i=n:=zo;subst O;have a:decide ((i:Int)<(i:Int))=ab:=zS;have J:decide (i<i)=ab:=zS;rw[Qd H]at b;refine Zf (j4 a J w1 f) ?_;refine Q _ ⟨r,(),⟨zo,λj x=>?_⟩,AO zp zp⟩;by_cases R:j=k-1;rw[R,b];exact y j zo
section
def dA{α:Type}{p}{l:List α}{i j:Nat}{x y}(f:i<j)(c:l[i]?=ae x)(m:l[j]?=ae y)(b:p x=ad)(a:p y=ad):2<=(l.filter p).length:=by
 have⟨h,k⟩:=DG.1 c;have g:l.drop i=x::l.drop (i+1):=by rw[FL h,k]
 have d:y∈l.drop (i+1):=DY (i:=j-(i+1)) zG;have e:l.filter p=(l.take i).filter p++x::(l.drop (i+1)).filter p:=by conv=>lhs;rw[<- HX i l,g,HH,KH b]
 have:=List.length_pos_of_mem (IY.2 ⟨d,a⟩);grind
def mR{α:Type}{p}{l:List α}{v:Nat}{x}(c:l[v]?=ae x)(b:p x=ad)(h:∀ i y,l[i]?=ae y->i≠v->p y=ab):(l.filter p).length=1:=by
 have⟨g,j⟩:=DG.1 c;have f:l.drop v=x::l.drop (v+1):=by rw[FL g,j]
 have e:l.filter p=(l.take v).filter p++x::(l.drop (v+1)).filter p:=by conv=>lhs;rw[<- HX v l,f,HH,KH b]
 rw[e,lY.2,lY.2];rfl;intro y a;have⟨i,d⟩:=ld.1 a;grind;intro y a;have⟨i,d⟩:=ld.1 a;grind
namespace PM
variable{m:PM}
def RU{i}(h:i<m.AN.length):m.AN[i]?=ae (m.vx (i:Int)):=by rw[vx,DK,GZ,AY h];rfl
def AC6{i:Nat}{x}(h:m.AN[i]?=ae x):m.vx (i:Int)=x:=by rw[vx,DK,GZ,h];rfl
def twins_one{v}(b:v<m.AN.length)(h:∀ i,i<m.AN.length->i≠v->((m.vx (i:Int)).AD==(m.vx (v:Int)).AD&&(m.vx (i:Int)).region==(m.vx (v:Int)).region)=ab):m.twins v=1:=
 mR (v:=v) (RU b) (by rw[kd,J',J'];rfl) λi y a c=>by have:=h i (DG.1 a).1 c;rw[AC6 a]at this;exact this
def twins_two{v i}(c:v<m.AN.length)(hi:i<m.AN.length)(a:i≠v)(h:((m.vx (i:Int)).AD==(m.vx (v:Int)).AD&&(m.vx (i:Int)).region==(m.vx (v:Int)).region)=ad):m.twins v≠1:=by
 have b:((m.vx (v:Int)).AD==m.kd v&&(m.vx (v:Int)).region==(m.vx (v:Int)).region)=ad:=by rw[kd,J',J'];rfl
 have:=(Nat.lt_or_gt_of_ne a).elim (λq=>dA (p:=λy:VP=>y.AD==m.kd v&&y.region==(m.vx (v:Int)).region) q (RU hi) (RU c) h b) (λq=>dA (p:=λy:VP=>y.AD==m.kd v&&y.region==(m.vx (v:Int)).region) q (RU c) (RU hi) b h);have e:m.twins v=aa (m.AN.filter λy=>y.AD==m.kd v&&y.region==(m.vx (v:Int)).region):=rfl;omega
def FB.ow0(h:m.FB){r:Int}(c:0<=r)(b:r<aa m.AU):(m.ow r == -1)=(r==0):=by rcases h.own c b with ⟨q,a⟩|⟨q,a,_⟩;grind;grind
def wysI(m:PM)(v:Int)(to:Bool)(n:Nat):iS:=((aE n).filter fun(i:Nat)=>(to&&(m.wy (i:Int)).target==v)||(!to&&(m.wy (i:Int)).AV==v)).map fun(i:Nat)=>(i:Int)
def wysI_succ(v to n):m.wysI v to (n+1)=m.wysI v to n++(if((to&&(m.wy (n:Int)).target==v)||(!to&&(m.wy (n:Int)).AV==v))=ad then[(n:Int)]else[]):=by rw[wysI,HW,HH,DL];split;rename_i h;rw[OR,AF h];rfl;rename_i h;rw[OR,AA h];rfl
def wysI_len(v to n):(m.wysI v to n).length<=n:=by rw[wysI,BC];grind
def wysI_rng{v to n i}(h:i∈m.wysI v to n):0<=i/\i<n:=by obtain⟨k,a,rfl⟩:=CY.1 h;grind
def La{α β:Type}(d p)(f:α->β):∀ l:List α,((aE l.length).filter λi=>p (l.getD i d)).map (λi=>f (l.getD i d))=(l.filter p).map f
 |[]=>rfl|x::t=>by
  rw[CW,OY,OR,NP];have a:=La d p f t;have e:(λi=>p ((x::t).getD i d))∘Nat.succ=λi=>p (t.getD i d):=by rfl
  by_cases h:p x=ad;rw[AF (show p ((x::t).getD 0 d)=ad from h),KH h,BI,EL];congr 1;rw[AA (show ¬p ((x::t).getD 0 d)=ad from h),JG h,EL];exact a
def wys_inc(v):(m.wysI v ad m.AE.length).map (λi=>(m.wy i).AV)=m.inc v:=by rw[wysI,EL,inc,<- La VT (λt=>t.target==v) (·.AV) m.AE];simp only[GR,EG,DZ];rfl
def wys_out(v):(m.wysI v ab m.AE.length).map (λi=>(m.wy i).target)=m.out v:=by rw[wysI,EL,out,<- La VT (λt=>t.AV==v) (·.target) m.AE];rfl
def wys_els(v):((m.wysI v ab m.AE.length).filter λi=>Uy (m.wy i).guard).length=m.elses v:=by have e:=La VT (λt:WP=>t.AV==v&&Uy t.guard) (λt=>t) m.AE;have a:=BU List.length e;rw[BC,BC]at a;rw[elses,<- a,wysI,NP,BC,List.filter_filter];congr 1;refine TH λi _=>?_;simp only[EG,PX,DJ,CH,wy,GZ,Function.comp];grind
end PM
end
open Go.Proofs
set_option maxHeartbeats 1000000
set_option maxRecDepth 10000
def UJ(c d e:AH)(m:BR)(vs:Sl bS):V:=.agg [m.name,Za c 2 Yw m.vars,Za c 1 V.AB m.BF,Za c 2 Yw m.AU,Za c 8 (Y6 d) m.AL,Za c 8 (Xo d) m.AE,Za e 1 V.AB vs]
def fj(c d e m vs):UJ c d e m vs=.agg [m.name,Za c 2 Yw m.vars,Za c 1 V.AB m.BF,Za c 2 Yw m.AU,Za c 8 (Y6 d) m.AL,Za c 8 (Xo d) m.AE,Za e 1 V.AB vs]:=rfl
def Mt(b c d e:AH)(m:BR)(vs:Sl bS):V:=.view b (UJ c d e m vs)
def Xu(b c d e m vs):Mt b c d e m vs=.view b (.agg [m.name,Za c 2 Yw m.vars,Za c 1 V.AB m.BF,Za c 2 Yw m.AU,Za c 8 (Y6 d) m.AL,Za c 8 (Xo d) m.AE,Za e 1 V.AB vs]):=rfl
@[go_sem] def w7(g b c d e m vs):(Mt b c d e m vs).recol g=Mt (g b) (g c) (g d) (g e) m vs:=by show(V.view b (UJ c d e m vs)).recol g=_;simp only[fj,V.recol,X9,BI,BV,Ua,Ui,N2,N1,N3];rfl
def wI(G)(A:Yy G)(c d m)(z:m.vars.l.length<=600):Spec () G 32 [Zw c d m] Zm (Mt .new c d .new m (Zb m.p.vn)):=by
 refine Zo 0 31 [.tmp 2] func32 λX=>?_;have a:m.p.vn=m.vars.l.map (·.1):=rfl;have j:aa m.p.vn<=600:=by rw[a,BC];exact z
 simp only[Zj];refine Z ?_;intro E;refine Z ?_;intro u;refine Z ?_;refine Z8 [1,3] [1] (aa m.vars.l) (λk (g:Nat)=>[(4,k)]) (λk g=>[(7,qC u 0 [m.name,Za c 2 Yw m.vars,Za c 1 V.AB m.BF,Za c 2 Yw m.AU,Za c 8 (Y6 d) m.AL,Za c 8 (Xo d) m.AE,AZ 27 g 1 (m.p.vn.take k)]),(27,Z9 g V.AB (m.p.vn.take k))]) (λ_ _=>True) 0 0 qz trivial zp (by refine Zs ?_;exact ID) ?_;intro k g D _ F h;by_cases b:k<aa m.vars.l;have e:=zU ((k:Int)<(aa m.vars.l:Int));have t:=AY b;have q:k<aa m.p.vn:=by rw[a,BC];exact b
 have i:m.p.vn.take (k+1)=m.p.vn.take k++[(m.vars.l[k]).1]:=by rw[DO q];simp[a]
 have n:aa (m.p.vn.take k)=k:=by rw[CZ];omega
 generalize m.vars.l[k]=x at t i;have y:=wQ ((k:Int)+1);rw[i]at h;generalize m.p.vn.take k=s at n h;refine Ym e ?_;refine Pr (j4 t Xj b Ya) A ?_;intro B;refine Yg (f:=V.AB) (l:=s) (l2:=[x.1]) BE rfl rfl rfl zp (Z3 zo zO) λC=>?_;refine Zs ?_;refine Zf y ?_;exact h _ ⟨b,C,AJ,AO zp zp⟩;have r:k=aa m.vars.l:=zo;subst r;rw[HY (by rw[a,BC];exact BO _)];have e:decide ((aa m.vars.l:Int)<(aa m.vars.l:Int))=ab:=zS;generalize m.p.vn=vn at j⊢;refine Ym e ?_;refine Y2 (λo=>o==27) [3,12] [] (l:=[]) (m:=[(7,qC u 0 [m.name,Za c 2 Yw m.vars,Za c 1 V.AB m.BF,Za c 2 Yw m.AU,Za c 8 (Y6 d) m.AL,Za c 8 (Xo d) m.AE,Za .new 1 V.AB (Zb vn)])]) trivial ?_ ?_;simp only[Z2,Z5,CE];exact D_ (cs:=[m.name,Za c 2 Yw m.vars,Za c 1 V.AB m.BF,Za c 2 Yw m.AU,Za c 8 (Y6 d) m.AL,Za c 8 (Xo d) m.AE,AZ 27 g 1 vn]) rfl zp ⟨Zd,Zd,Zd,Zd,Zd,Zd,Yp rfl zp BE,AJ⟩;refine Y2 (λo=>o==7) [12] [] (l:=[(3,Mt .new c d .new m (Zb vn))]) (m:=[]) ?_ trivial ?_;refine Zs ?_;exact CS (v:=UJ c d .new m (Zb vn)) zp zp;exact Zr
def A7(G)(l:Yy G)(m vs)(k:m.p.Rt)(s:Int)(v:Int)(f:0<=v)(a:v<m.p.AN.length):∀ b c d e,Spec () G 133 [Mt b c d e m vs,v,s] Zm (m.p.inB v s):=by
 have g:∀ (v:Int),0<=v->v<aa m.p.AN->(0<=m.p.around v->∀ b c d e,Spec () G 133 [Mt b c d e m vs,(m.p.around v),s] Zm (m.p.inB (m.p.around v) s)) ->
   ∀ b c d e,Spec () G 133 [Mt b c d e m vs,v,s] Zm (m.p.inB v s):=by
  intro v f a j b c d e;refine Zo 0 27 [.tmp 6] func133 λX=>?_;refine Zf Xu ?_;refine Zc l ?_ (s:=Rr G l c.ent d.ent m k.toFB v f a);by_cases o:0<=m.p.around v;have i:=zU (m.p.around v>=0);rw[k.FC.inB_up f a o];cases n:(m.p.around v==s);refine Zf (zi i n) ?_;refine Zc l ?_ (s:=j o b.ent c.ent d.ent e.ent);rw[CH];exact Zr;exact Zq (zi i n);have i:=zV (m.p.around v>=0);rw[PM.inB_nil zo];exact Zq i
 exact k.FC.ind (P:=λv=>∀ b c d e,Spec () G 133 [Mt b c d e m vs,v,s] Zm (m.p.inB v s))
  (λv f a q=>g v f a (λh=>absurd h zo)) (λv f a _ _ j=>g v f a (λ_=>j)) f a
def My(G)(y:Yy G)(m vs)(A:m.p.Rt)(r:Int)(v:Int)(l:0<=v)(j:v<m.p.AN.length):∀ b c d e,Spec () G 127 [Mt b c d e m vs,v,r] Zm (m.p.withinB v r):=by
 have q:∀ (v:Int),0<=v->v<aa m.p.AN->(0<=m.p.around v->∀ b c d e,Spec () G 127 [Mt b c d e m vs,(m.p.around v),r] Zm (m.p.withinB (m.p.around v) r)) ->
   ∀ b c d e,Spec () G 127 [Mt b c d e m vs,v,r] Zm (m.p.withinB v r):=by
  intro v l j u b c d e;refine Zo 0 33 [.tmp 6] func127 λX=>?_;have⟨k,x,z,D,E,C⟩:=EH l j;have g:((m.p.vx v).region==r)=(x.region==r):=by rw[C]<;>rfl
  have f:=j5 E D Zp Xu Ya;have i:=Rr G y c.ent d.ent m A.toFB v l j;cases o:(x.region==r);rotate_left;have:m.p.withinB v r=ad:=by rw[PM.withinB,HR,g,o]<;>rfl
  rw[this];exact Zq (j3 z o f);rw[o]at g;by_cases B:0<=m.p.around v
  .have n:=zU (m.p.around v>=0);rw[A.FC.withinB_up l j B,g,CH];have t:=u B b.ent c.ent d.ent e.ent
   try clear u
   generalize m.p.around v=a at i n t⊢;subst z;refine Zf (zi o f) ?_;refine Zc y ?_ (s:=i);refine Zf n ?_;refine Zc y ?_ (s:=t);exact Zr
  have n:=zV (m.p.around v>=0);rw[PM.withinB_nil zo,g];generalize m.p.around v=a at i n;subst z;refine Zf (zi o f) ?_;refine Zc y ?_ (s:=i);exact Zq n
 exact A.FC.ind (P:=λv=>∀ b c d e,Spec () G 127 [Mt b c d e m vs,v,r] Zm (m.p.withinB v r))
  (λv l j F=>q v l j (λh=>absurd h zo)) (λv l j _ _ u=>q v l j (λ_=>u)) l j
