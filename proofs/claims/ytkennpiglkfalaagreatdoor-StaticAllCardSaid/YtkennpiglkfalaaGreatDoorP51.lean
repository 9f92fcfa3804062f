/- A part. No condition. -/
import Derived.Test.YtkennpiglkfalaaGreatDoorP50
import Derived.Test.YtkennpiglkfalaaGreatDoorRows
import Derived.ProofKit
import Derived.OpenShut
import Derived.LaidLaws
import Derived.Stop.LaidErr
import Derived.Lib.LaidTab
import Derived.Handed
import Derived.ChangeMaps5
set_option linter.all false
open List renaming length->aa
open Bool renaming false->ab,true->ad
open Option renaming some->ae,none->ah
open Go.Proofs.Tryz renaming prog->ai
open Go.Proofs.Tryz
open Go.DataW renaming trod->bq,weightsEach->bu
open Go.IntKind renaming i64->bx
open Go.Lib renaming pow10Tab->bz
open Go.Value renaming int->bp
open Go.World renaming block_lt_of_cell?->aG
section
namespace Go.Hs
open Go.Proofs
set_option maxHeartbeats 8000000
set_option maxRecDepth 10000
structure JX where
 so:Sl Int
 fi:Int
 gu:Sl Int
 ef:Sl Int
 en:Sl (Int×Sl Int)
 re:Sl Int
def Om(c:AH)(x:JX):V:=.agg [Za c 1 () x.so,x.fi,Za c 1 () x.gu,Za c 1 () x.ef,Za c 2 (V6 c) x.en,Za c 1 () x.re]
def Q2(c:AH)(x:JX):Om c x=.agg [Za c 1 () x.so,x.fi,Za c 1 () x.gu,Za c 1 () x.ef,Za c 2 (V6 c) x.en,Za c 1 () x.re]:=rfl
structure KM(M:Nat)(x:JX):Prop where
 so:aa x.so.l<=M
 gu:aa x.gu.l<=M
 ef:aa x.ef.l<=M
 en:aa x.en.l<=M
 br:∀ e∈x.en.l,aa e.2.l<=M
 re:aa x.re.l<=M
def SR(M:Nat)(i:Nat):Sh:=match i with|0=>.int .i64|_=>Ur .i64 M
def Ff(M:Nat)(i:Nat):Sh:=match i with|1=>.int .i64|4=>.row ad 2 M (SR M)|_=>Ur .i64 M
def D9{M:Nat}:(Ur .i64 M).HK:=λ_ _=>trivial
def s6{M:Nat}:∀ i,(SR M i).HK:=λi=>by unfold SR;split;trivial;exact D9
def jc{M:Nat}:∀ i,(Ff M i).HK:=λi=>by unfold Ff;split;trivial;exact λi _=>s6 i;exact D9
def Ev{α:Type}{f:α->V}{R:α->Prop}:∀ {l:List V},(∀ u∈l,∃ x,u=f x/\R x)->∃ m:List α,l=m.map f/\∀ x∈m,R x
 |[],_=>⟨[],rfl,zS⟩|u::r,h=>by obtain⟨x,rfl,a⟩:=h u zS;obtain⟨m,rfl,c⟩:=Ev (f:=f) (R:=R) (l:=r) λv b=>h v (by simp[b]);exact⟨x::m,rfl,by simpa using⟨a,c⟩⟩
def tD{c x:AH}{M:Nat}{v:V}(h:Gq c x (.row ad 2 M (SR M)) v):∃ s:Sl (Int×Sl Int),v=Za c 2 (V6 c) s/\aa s.l<=M/\∀ e∈s.l,aa e.2.l<=M:=by
 rcases h with rfl|⟨d,l,rfl,q,o⟩;exact⟨.nil,rfl,CB _,λe r=>by cases r⟩;obtain⟨n,rfl,p⟩:=Ev (f:=V6 c) (R:=λe=>aa e.2.l<=M) (l:=l) λu g=>by
  have⟨t,h2,j⟩:=o u g;generalize u.cells=w at *
  match w,t with|[a,b],_=>have⟨k,i⟩:=j 0 zS;have⟨m,k1,y⟩:=P4 (j 1 zS);simp only[QJ,lc]at i k1;exact⟨(k,m),by rw[h2,i,k1];rfl,y⟩
 exact⟨.mk d n,rfl,by simpa[Sl.l]using q,by simpa[Sl.l]using p⟩
def C2{c t:AH}{M:Nat}{cs:List V}(s:aa cs=6)(j:∀ i (h:i<aa cs),Gq c t (Ff M i) cs[i]):∃ x:JX,cs=(Om c x).cells/\KM M x:=by match cs,s with|[a,b,d,e,f,g],_=>have⟨r,l,b0⟩:=P4 (j 0 zS);have⟨m,k1⟩:=j 1 zS;have⟨q,k2,y⟩:=P4 (j 2 zS);have⟨p,k3,w⟩:=P4 (j 3 zS);have⟨o,k4,v,k⟩:=tD (j 4 zS);have⟨n,k5,u⟩:=P4 (j 5 zS);simp only[QJ,lc]at l k1 k2 k3 k4 k5;exact⟨⟨r,m,q,p,o,n⟩,by rw[l,k1,k2,k3,k4,k5];rfl,⟨b0,y,w,v,k,u⟩⟩
def sQ{c e:AH}{M:Nat}{v:V}(h:Gq c e (.agg 6 (Ff M)) v):∃ x:JX,v=Om c x/\KM M x:=by obtain⟨l,rfl,d,b⟩:=h;obtain⟨x,rfl,a⟩:=C2 d b;exact⟨x,rfl,a⟩
def se{c q:AH}{N M:Nat}{v:V}(h:Gq c q (.row ad 6 N (Ff M)) v):∃ xs:Sl JX,v=Za c 6 (Om c) xs/\aa xs.l<=N/\∀ x∈xs.l,KM M x:=by
 rcases h with rfl|⟨a,l,rfl,k,i⟩;exact⟨.nil,rfl,CB _,λe m=>by cases m⟩;obtain⟨d,rfl,j⟩:=Ev (f:=Om c) (R:=KM M) (l:=l) λu b=>by have⟨p,h2,o⟩:=i u b;have⟨x,g,n⟩:=C2 p o;exact⟨x,by rw[h2,g];rfl,n⟩
 exact⟨.mk a d,rfl,by simpa[Sl.l]using k,by simpa[Sl.l]using j⟩
def u4{c j:AH}{M:Nat}{s:Sl (Int×Sl Int)}(h:aa s.l<=M)(g:∀ e∈s.l,aa e.2.l<=M):Gq c j (.row ad 2 M (SR M)) (Za c 2 (V6 c) s):=by
 rcases s with _|⟨b,l⟩;exact .inl rfl;refine .inr ⟨b,_,rfl,by simpa[Sl.l]using h,λu d=>?_⟩;obtain⟨e,f,rfl⟩:=CY.1 d;refine⟨rfl,rfl,λi a=>?_⟩;have a:i<2:=a
 match i,a with|0,_=>exact⟨_,rfl⟩|1,_=>exact P5 (g e f)
def iy{c d:AH}{M:Nat}{x:JX}(a:KM M x):∀ i (h:i<aa (Om c x).cells),Gq c d (Ff M i) (Om c x).cells[i]:=λi b=>by
 have b:i<6:=b
 match i,b with|0,_=>exact P5 a.so|1,_=>exact⟨_,rfl⟩|2,_=>exact P5 a.gu|3,_=>exact P5 a.ef|4,_=>exact u4 a.en a.br|5,_=>exact P5 a.re
def r6{c f:AH}{N M:Nat}{xs:Sl JX}(h:aa xs.l<=N)(e:∀ x∈xs.l,KM M x):Gq c f (.row ad 6 N (Ff M)) (Za c 6 (Om c) xs):=by rcases xs with _|⟨b,l⟩;exact .inl rfl;refine .inr ⟨b,_,rfl,by simpa[Sl.l]using h,λu d=>?_⟩;obtain⟨x,a,rfl⟩:=CY.1 d;exact⟨rfl,rfl,iy (e x a)⟩
def iH{c i:AH}{N M:Nat}{v:V}(h:Gq c i (.F1 ab ad 1 N (λ_=>Ur .i64 M)) v):∃ rs:Sl (Sl Int),v=Za i 1 (λs=>Za c 1 () s) rs/\aa rs.l=N/\∀ r∈rs.l,aa r.l<=M:=by
 rcases h with ⟨rfl,w⟩|⟨b,l,rfl,o,m⟩;exact⟨.nil,rfl,by simpa[Sl.l]using w.symm,λe p=>by cases p⟩;obtain⟨k,rfl,n⟩:=Ev (f:=λs=>Za c 1 () s) (R:=λr=>aa r.l<=M) (l:=l) λu d=>by
  have⟨t,h2,q⟩:=m u d;generalize u.cells=x at *
  match x,t with|[a],_=>have⟨j,g,b0⟩:=P4 (q 0 zS);simp only[QJ]at g;exact⟨j,by rw[h2,g];rfl,b0⟩
 exact⟨.mk b k,rfl,by simpa[Sl.l]using o,by simpa[Sl.l]using n⟩
def S0(c:AH)(s:Sl Int):(Za c 1 () s).cells=[Za c 1 () s]:=by cases s<;>rfl
def sk{c b:AH}{M:Nat}{l:List (Sl Int)}(h:∀ r∈l,aa r.l<=M):Gq c b (.F1 ab ad 1 (aa l) (λ_=>Ur .i64 M)) (Za b 1 (λs=>Za c 1 () s) (.mk ab l)):=by
 refine .inr ⟨ab,_,rfl,by rw[BC],λu d=>?_⟩;obtain⟨r,e,rfl⟩:=CY.1 d;refine⟨by rw[S0];rfl,by rw[S0];rfl,λi f=>?_⟩;have a:i<aa [Za c 1 () r]:=by rw[<- S0];exact f
 have:i=0:=zu a;subst this;simp only[S0];exact P5 (h r e)
def HL(x:JX):List (Sl Int):=[x.so,x.gu,x.ef,x.re]
def tP{N M:Nat}(l:List (Nat×Sh))(b:∀ p∈l,∃ k n,p.2=.lit k n):∀ p∈((2,Sh.F1 ab ad 1 N (λ_=>Ur .i64 M))::l),p.2.freeT:=by intro p a;rcases a with _|⟨_,a⟩;exact λi _=>D9 (M:=M);have⟨k,n,h⟩:=b p a;rw[h];trivial
def zH(M:Nat)(hM:M<1000000000):WT ai 12 [.agg 6 (Ff M)]:=by
 refine uF (n:=52) rfl rfl rfl rfl rfl λw0 B C=>?_;refine AK.pre 0 ?_;rintro w _ ⟨z,_,rfl,b,rfl⟩;obtain⟨x,rfl,A⟩:=sQ b;clear b;refine CA zk ?_;refine Zs ?_;intro g;refine AC.weak (Z4 (λo=>o==1) (l:=[(1,qW (Om .old x))]) (m:=[]) (by refine Zs ?_;exact CS rfl rfl) trivial) ?_;refine AC.seq ?_;refine Ym Q2 ?_;intro y;refine Zs ?_;have H:flat ((HL x).map λs=>Za .old 1 () s)=[Za .old 1 () x.so,Za .old 1 () x.gu,Za .old 1 () x.ef,Za .old 1 () x.re]:=by show(Za _ _ _ _).cells++((Za _ _ _ _).cells++((Za _ _ _ _).cells++((Za _ _ _ _).cells++[])))=_;rw[S0,S0,S0,S0];rfl
 have U:HL x≠[]:=by simp[HL]
 refine AC.weak (AO (l:=[(1,qW (Om .old x)),(2,AZ 14 y 1 (HL x))]) (m:=[(14,Z9 y (λs=>Za .old 1 () s) (HL x))]) (zq @Q2) (by refine Zs ?_;rw[X2 _ _ U,H])) ?_;refine AC.seq ?_;have S:=A.en;refine Z ?_;refine Z8 [1] [] (aa x.en.l) (λi (g:Nat)=>[(2,AZ 14 g 1 (HL x++(x.en.l.take i).map (·.2))),(3,i)]) (λi g=>[(14,Z9 g (λs=>Za .old 1 () s) (HL x++(x.en.l.take i).map (·.2)))]) (λ_ _=>True) 0 y qz trivial (by rw[HZ,BV,DW];exact zp) (by rw[HZ,BV,DW];exact zp) ?_;intro i g2 Y _ K p;by_cases t:i<aa x.en.l;have u:=zU ((i:Int)<(aa x.en.l:Int));have G:=AY t;have J:x.en.l.take (i+1)=x.en.l.take i++[x.en.l[i]]:=DO t;rw[J,DL,BI,BV,<- DH]at p;have T:aa (HL x++(x.en.l.take i).map (·.2))=4+i:=by rw[BQ,BC,CZ];show 4+_=_;omega
 have D:HL x++(x.en.l.take i).map (·.2)≠[]:=λh=>U (OP.1 h).1;generalize x.en.l[i]=e at G p;generalize HL x++(x.en.l.take i).map (·.2)=W at p T D⊢;have X:=wQ ((i:Int)+1);refine Ym (zi u Q2) ?_;refine Zf (j6 G t Q4 Q2 S0 Ya) ?_;intro g29;refine ABh (f:=λs=>Za .old 1 () s) (l:=W) (l2:=[e.2]) (o:=14) (λs=>by rw[S0];rfl) D rfl (by rw[BI,BV];show[_]=(Za _ _ _ _).cells++[];rw[S0];rfl) rfl zp (Z3 zo zO) λg3=>?_;refine Zs ?_;refine Zf X ?_;exact p _ ⟨t,g3,AJ,AO (zq (zi @Q2 X)) zp⟩;have P:i=aa x.en.l:=zo;have u:=zV ((aa x.en.l:Int)<(aa x.en.l:Int));rw[P,B_];have d:∀ r∈HL x++x.en.l.map (·.2),aa r.l<=M:=λr q=>by rcases DX.1 q with q|q;simp only[HL,BY,CL,CF]at q;rcases q with rfl|rfl|rfl|rfl;exact A.so;exact A.gu;exact A.ef;exact A.re;obtain⟨e,he,rfl⟩:=CY.1 q;exact A.br e he
 have E:aa (HL x++x.en.l.map (·.2))<=4+M:=by rw[BQ,BC];show 4+_<=_;omega
 refine BM (Z4 (λo=>o==14) (l:=[(1,qW (Om .old x)),(2,Za .new 1 (λs=>Za .old 1 () s) (.mk ab (HL x++x.en.l.map (·.2)))),(3,aa x.en.l)]) (m:=[]) ?_ trivial) ?_;refine Zs ?_;exact⟨Zd,Yp (l:=HL x++x.en.l.map (·.2)) (f:=λs=>Za .old 1 () s) rfl zp (λs=>by rw[S0];rfl),Zd⟩;refine Zf (zi u Q2) ?_;refine AC.k [(2,.F1 ab ad 1 (aa (HL x++x.en.l.map (·.2))) (λ_=>Ur .i64 M))] (by refine Zs ?_;exact sk d) ?_;clear d H U p S Y;generalize aa (HL x++x.en.l.map (·.2))=N at E;refine AK.pre 0 ?_;rintro w _ ⟨z,_,rfl,b,rfl⟩;refine CA zk ?_;refine Zs ?_;refine AC.k [(2,.F1 ab ad 1 N (λ_=>Ur .i64 M)),(4,.lit .i64 0)] (by refine Zs ?_;exact b) ?_;refine AK.block ?_;refine gb N (λi=>[(2,.F1 ab ad 1 N (λ_=>Ur .i64 M)),(4,.lit .i64 i)]) 0 qz λi Y=>?_;refine AK.pre 0 ?_;rintro w _ ⟨z,_,rfl,b,_,_,rfl,rfl,rfl⟩;obtain⟨I,rfl,hl,q⟩:=iH b;refine Z1 ?_;refine Zi (zp) (λc=>?_) (λc=>?_);refine EP ?_;refine Zs ?_;have L:i<N:=by have:=JC c;omega
 refine AC.k [(2,.F1 ab ad 1 N (λ_=>Ur .i64 M)),(4,.lit .i64 i)] (by refine Zs ?_;exact b) ?_;refine wb [(2,.F1 ab ad 1 N (λ_=>Ur .i64 M)),(4,.lit .i64 i)] (AK.block ?_) ?_;refine AK.pre 0 ?_;rintro w _ ⟨z,_,rfl,b,_,_,rfl,rfl,rfl⟩;refine CA zk ?_;refine Zs ?_;refine AC.k [(2,.F1 ab ad 1 N (λ_=>Ur .i64 M)),(4,.lit .i64 i),(5,.lit .i64 0)] (by refine Zs ?_;exact b) ?_;refine AK.block ?_;refine gb M (λj=>[(2,.F1 ab ad 1 N (λ_=>Ur .i64 M)),(4,.lit .i64 i),(5,.lit .i64 j)]) 0 qz λj hj=>?_;refine AK.pre 0 ?_;rintro w _ ⟨z,_,rfl,b,_,_,rfl,rfl,_,_,rfl,rfl,rfl⟩;obtain⟨I,rfl,hl,q⟩:=iH b;have F:i<aa I.l:=zo;have v:=AY F;have Q:=q _ (BT F);generalize I.l[i]=r at v Q;refine Zk λK p=>CA zk ?_;refine Xc v ?_;refine p _ ?_;clear p K;refine Zi (zp) (λh2=>?_) (λh2=>?_);refine EP ?_;refine Zs ?_;have O:j<aa r.l:=zu h2;have R:=AY O;refine xN [(2,.F1 ab ad 1 N (λ_=>Ur .i64 M)),(4,.lit .i64 i),(5,.lit .i64 j)] (AC.block (AC.store [(2,.F1 ab ad 1 N (λ_=>Ur .i64 M)),(4,.lit .i64 i),(5,.lit .i64 j)] (tP _ zS) zk zk rfl ?_ λa w c h2=>⟨c,h2⟩)) ?_;simp -implicitDefEqProofs only[List.dropLast];refine Xc (zi v R) ?_;exact⟨⟨_,rfl,rfl,zk,⟨rfl,AJ⟩,zd⟩,b⟩;refine AK.all 0 ?_;rintro w _ ⟨z,_,rfl,b,_,_,rfl,rfl,_,_,rfl,rfl,rfl⟩;refine CA zk ?_;refine Zs ?_;refine leave.k [(2,.F1 ab ad 1 N (λ_=>Ur .i64 M)),(4,.lit .i64 i),(5,.lit .i64 (j+1:Nat))] (by refine Zs ?_;exact⟨b,Xi zo zo⟩) λa w c h2=>⟨zo,c,h2⟩;refine FO ?_;refine Zs ?_;refine leave.k [(2,.F1 ab ad 1 N (λ_=>Ur .i64 M)),(4,.lit .i64 i)] (by refine Zs ?_;exact b) λa w c h2=>⟨c,h2⟩;refine AK.all 0 ?_;rintro w _ ⟨z,_,rfl,b,_,_,rfl,rfl,rfl⟩;refine CA zk ?_;refine Zs ?_;refine leave.k [(2,.F1 ab ad 1 N (λ_=>Ur .i64 M)),(4,.lit .i64 (i+1:Nat))] (by refine Zs ?_;exact⟨b,Xi zo zo⟩) λa w c h2=>⟨L,c,h2⟩;refine FO ?_;refine Zs ?_;refine leave.k [] trivial λa w c h2=>⟨c.df,h2⟩
def FK.gr(x:FK):FK:=⟨x.name,x.AD,x.region,x.of,x.entry,x.exit,Zb x.defers.l,x.sub⟩
def FZ.gr(x:FZ):FZ:=⟨x.name,x.AV,x.target,Zb x.C_.l,x.after,x.guard,x.DT,x.AD⟩
def BR.gr(m:BR):BR:=⟨m.name,Zb m.vars.l,Zb m.BF.l,Zb m.AU.l,Zb (m.AL.l.map FK.gr),Zb (m.AE.l.map FZ.gr)⟩
def BR.gr_p(m:BR):m.gr.p=m.p:=by simp only[BR.p,BR.gr,Zl,EL];congr 1;refine FQ λx _=>?_;simp only[Function.comp,FK.p,FK.gr,Zl];refine FQ λx _=>?_;simp only[Function.comp,FZ.p,FZ.gr,Zl]
def uA(G:Nat->V)(D:Yy G)(c d:AH)(m:BR)(y:EM m):Spec () G 7 [Zw c d m] Zm (Zw .new .new m.gr):=by
 refine Zo 0 150 [.cell 2 40] func7 λX=>?_;have N:=y.nv;have M:=y.ne;have L:=y.nr;have K:=y.nx;have J:=y.nw;simp only[Zj];refine Z1 ?_;intro I H;refine qF 1 [2] [2] 1 (Zw c d m) ?_;refine Zf Zj ?_;intro t;refine Zf Zj ?_;refine Yg (f:=V.AB) (l:=([]:List bS)) (l2:=m.BF.l) (g:=0) BE rfl rfl rfl zp (Z3 zo zO) λs=>?_;refine Zs ?_;refine Y2 (λo=>o==19) [1,2,3] [2] (l:=[]) (m:=[(3,qC t 0 [m.name,.AG,Za .new 1 V.AB (Zb m.BF.l),.AG,.AG,.AG])]) trivial ?_ ?_;simp only[Z2,Z5,CE];exact D_ (cs:=[m.name,.AG,AZ 19 s 1 m.BF.l,.AG,.AG,.AG]) rfl zp ⟨Zd,Zd,Yp rfl zp BE,Zd,Zd,Zd,AJ⟩;refine Zf Zj ?_;refine Z8 [1,2,3] [2] (aa m.vars.l) (λk (i:Nat)=>[(4,k)]) (λk i=>[(3,qC t 0 [m.name,AZ 44 i 2 (m.vars.l.take k),Za .new 1 V.AB (Zb m.BF.l),.AG,.AG,.AG]),(44,Z9 i Yw (m.vars.l.take k))]) (λ_ _=>True) 0 0 qz trivial zp (by refine Zs ?_;exact ID) ?_;intro k i x _ z p;by_cases a:k<aa m.vars.l;have r:=AY a;have e:m.vars.l.take (k+1)=m.vars.l.take k++[m.vars.l[k]]:=by rw[DO a]
 have j:aa (m.vars.l.take k)=k:=by rw[CZ];omega
 have u:=wQ ((k:Int)+1);have b:=zU ((k:Int)<(aa m.vars.l:Int));generalize m.vars.l[k]=n at r e;generalize m.vars.l.take k=w at e j⊢;refine Ym (zi b Zj) ?_;refine Pr (j5 r Xj a Zj Ya) D ?_;intro C;refine Yg (f:=Yw) (l:=w) (l2:=[n]) J7 rfl rfl rfl zp (Z3 zo zO) λs=>?_;refine Zs ?_;refine Zf u ?_;exact p _ ⟨a,s,AJ,AO (Vw Zj) (by refine Zs ?_;rw[e];try exact ID)⟩;have h:k=aa m.vars.l:=zo;have b:=zV ((k:Int)<(aa m.vars.l:Int));rw[h]at b;rw[h,B_];refine Y2 (λo=>o==44) [1,2,3,4] [2] (l:=[]) (m:=[(3,qC t 0 [m.name,Za .new 2 Yw (Zb m.vars.l),Za .new 1 V.AB (Zb m.BF.l),.AG,.AG,.AG])]) trivial ?_ ?_;simp only[Z2,Z5,CE];exact D_ (cs:=[m.name,AZ 44 i 2 m.vars.l,Za .new 1 V.AB (Zb m.BF.l),.AG,.AG,.AG]) rfl zp ⟨Zd,Yp rfl zp J7,Zd,Zd,Zd,Zd,AJ⟩;refine Zf (zi b Zj) ?_
 try clear p z b h a x
 refine Z8 [1,2,3] [2] (aa m.AU.l) (λk (i:Nat)=>[(5,k)]) (λk i=>[(3,qC t 0 [m.name,Za .new 2 Yw (Zb m.vars.l),Za .new 1 V.AB (Zb m.BF.l),AZ 69 i 2 (m.AU.l.take k),.AG,.AG]),(69,Z9 i Yw (m.AU.l.take k))]) (λ_ _=>True) 0 0 qz trivial zp (by refine Zs ?_;exact ID) ?_;intro k i x _ z p;by_cases a:k<aa m.AU.l;have r:=AY a;have e:m.AU.l.take (k+1)=m.AU.l.take k++[m.AU.l[k]]:=by rw[DO a]
 have j:aa (m.AU.l.take k)=k:=by rw[CZ];omega
 have u:=wQ ((k:Int)+1);have b:=zU ((k:Int)<(aa m.AU.l:Int));generalize m.AU.l[k]=n at r e;generalize m.AU.l.take k=w at e j⊢;refine Ym (zi b Zj) ?_;refine Pr (j5 r Xj a Zj Ya) D ?_;intro C;refine Yg (f:=Yw) (l:=w) (l2:=[n]) J7 rfl rfl rfl zp (Z3 zo zO) λs=>?_;refine Zs ?_;refine Zf u ?_;exact p _ ⟨a,s,AJ,AO (Vw Zj) (by refine Zs ?_;rw[e];try exact ID)⟩;have h:k=aa m.AU.l:=zo;have b:=zV ((k:Int)<(aa m.AU.l:Int));rw[h]at b;rw[h,B_];refine Y2 (λo=>o==69) [1,2,3,5] [2] (l:=[]) (m:=[(3,qC t 0 [m.name,Za .new 2 Yw (Zb m.vars.l),Za .new 1 V.AB (Zb m.BF.l),Za .new 2 Yw (Zb m.AU.l),.AG,.AG])]) trivial ?_ ?_;simp only[Z2,Z5,CE];exact D_ (cs:=[m.name,Za .new 2 Yw (Zb m.vars.l),Za .new 1 V.AB (Zb m.BF.l),AZ 69 i 2 m.AU.l,.AG,.AG]) rfl zp ⟨Zd,Zd,Zd,Yp rfl zp J7,Zd,Zd,AJ⟩;refine Zf (zi b Zj) ?_
 try clear p z b h a x
 refine Z8 [1,2,3] [2] (aa m.AL.l) (λk (i:Nat)=>[(6,k)]) (λk i=>[(3,qC t 0 [m.name,Za .new 2 Yw (Zb m.vars.l),Za .new 1 V.AB (Zb m.BF.l),Za .new 2 Yw (Zb m.AU.l), AZ 108 i 8 ((m.AL.l.take k).map FK.gr),.AG]),(108,Z9 i (Y6 .new) ((m.AL.l.take k).map FK.gr))]) (λ_ _=>True) 0 0 qz trivial zp (by refine Zs ?_;exact ID) ?_;intro k i x _ z p;by_cases a:k<aa m.AL.l;have r:=AY a;have q:=BT a;have e:(m.AL.l.take (k+1)).map FK.gr=(m.AL.l.take k).map FK.gr++[(m.AL.l[k]).gr]:=by rw[DO a,DL]<;>rfl
 have j:aa ((m.AL.l.take k).map FK.gr)=k:=by rw[BC,CZ];omega
 have u:=wQ ((k:Int)+1);have b:=zU ((k:Int)<(aa m.AL.l:Int));generalize m.AL.l[k]=n at r e q;generalize(m.AL.l.take k).map FK.gr=w at e j⊢;have A:aa n.defers.l<1000000:=(y.vt n q).2.2;refine Ym (zi b Zj) ?_;refine Zf (j5 r Zp a Zj Ya) ?_;intro F;refine Zf (zi Zp Zj) ?_;intro B;refine Zf (zi Zp Zj) ?_;refine Yg (f:=V.AB) (l:=([]:List bS)) (l2:=n.defers.l) (g:=0) BE rfl rfl rfl zp (Z3 zo zO) λgd=>?_;refine Zs ?_;refine Y2 (λo=>o==102) [1,2,3,6,8] [2,3,108] (l:=[]) (m:=[(8,qC B 0 [n.name,.int .u8 n.AD,n.region,n.of,n.entry,n.exit,Za .new 1 V.AB (Zb n.defers.l),n.sub])]) trivial ?_ ?_;simp only[Z2,Z5,CE];exact D_ (cs:=[n.name,.int .u8 n.AD,n.region,n.of,n.entry,n.exit,AZ 102 gd 1 n.defers.l,n.sub]) rfl zp ⟨Zd,Zd,Zd,Zd,Zd,Zd,Yp rfl zp BE,Zd,AJ⟩;refine Zf Zj ?_;intro E;refine Yg (f:=Y6 .new) (l:=w) (l2:=[n.gr]) (Ah _) rfl rfl rfl zp (Z3 zo zO) λs=>?_;refine Zs ?_;refine Zf u ?_;exact p _ ⟨a,s,AJ,AO (Vw Zj) (by refine Zs ?_;rw[e];try exact ID)⟩;have h:k=aa m.AL.l:=zo;have b:=zV ((k:Int)<(aa m.AL.l:Int));rw[h]at b;rw[h,B_];refine Y2 (λo=>o==108) [1,2,3,6] [2] (l:=[]) (m:=[(3,qC t 0 [m.name,Za .new 2 Yw (Zb m.vars.l),Za .new 1 V.AB (Zb m.BF.l),Za .new 2 Yw (Zb m.AU.l), Za .new 8 (Y6 .new) (Zb (m.AL.l.map FK.gr)),.AG])]) trivial ?_ ?_;simp only[Z2,Z5,CE];exact D_ (cs:=[m.name,Za .new 2 Yw (Zb m.vars.l),Za .new 1 V.AB (Zb m.BF.l),Za .new 2 Yw (Zb m.AU.l), AZ 108 i 8 (m.AL.l.map FK.gr),.AG]) rfl zp ⟨Zd,Zd,Zd,Zd,Yp rfl zp (Ah _),Zd,AJ⟩;refine Zf (zi b Zj) ?_
 try clear p z b h a x
 refine Z8 [1,2,3] [2] (aa m.AE.l) (λk (i:Nat)=>[(9,k)]) (λk i=>[(3,qC t 0 [m.name,Za .new 2 Yw (Zb m.vars.l),Za .new 1 V.AB (Zb m.BF.l),Za .new 2 Yw (Zb m.AU.l),Za .new 8 (Y6 .new) (Zb (m.AL.l.map FK.gr)),AZ 147 i 8 ((m.AE.l.take k).map FZ.gr)]),(147,Z9 i (Xo .new) ((m.AE.l.take k).map FZ.gr))]) (λ_ _=>True) 0 0 qz trivial zp (by refine Zs ?_;exact ID) ?_;intro k i x _ z p;by_cases a:k<aa m.AE.l;have r:=AY a;have q:=BT a;have e:(m.AE.l.take (k+1)).map FZ.gr=(m.AE.l.take k).map FZ.gr++[(m.AE.l[k]).gr]:=by rw[DO a,DL]<;>rfl
 have j:aa ((m.AE.l.take k).map FZ.gr)=k:=by rw[BC,CZ];omega
 have u:=wQ ((k:Int)+1);have b:=zU ((k:Int)<(aa m.AE.l:Int));generalize m.AE.l[k]=n at r e q;generalize(m.AE.l.take k).map FZ.gr=w at e j⊢;have A:aa n.C_.l<1000000:=(y.wy n q).2;refine Ym (zi b Zj) ?_;refine Zf (j5 r Z6 a Zj Ya) ?_;intro F;refine Zf (zi Z6 Zj) ?_;intro B;refine Zf (zi Z6 Zj) ?_;refine Yg (f:=V.AB) (l:=([]:List bS)) (l2:=n.C_.l) (g:=0) BE rfl rfl rfl zp (Z3 zo zO) λgd=>?_;refine Zs ?_;refine Y2 (λo=>o==141) [1,2,3,9,11] [2,3,147] (l:=[]) (m:=[(11,qC B 0 [n.name,n.AV,n.target,Za .new 1 V.AB (Zb n.C_.l),n.after,n.guard,n.DT,.int .u8 n.AD])]) trivial ?_ ?_;simp only[Z2,Z5,CE];exact D_ (cs:=[n.name,n.AV,n.target,AZ 141 gd 1 n.C_.l,n.after,n.guard,n.DT,.int .u8 n.AD]) rfl zp ⟨Zd,Zd,Zd,Yp rfl zp BE,Zd,Zd,Zd,Zd,AJ⟩;refine Zf Zj ?_;intro E;refine Yg (f:=Xo .new) (l:=w) (l2:=[n.gr]) (Aj _) rfl rfl rfl zp (Z3 zo zO) λs=>?_;refine Zs ?_;refine Zf u ?_;exact p _ ⟨a,s,AJ,AO (Vw Zj) (by refine Zs ?_;rw[e];try exact ID)⟩;have h:k=aa m.AE.l:=zo;have b:=zV ((k:Int)<(aa m.AE.l:Int));rw[h]at b;rw[h,B_];refine Y2 (λo=>o==147) [1,2,3,9] [2] (l:=[]) (m:=[(3,qC t 0 [m.name,Za .new 2 Yw (Zb m.vars.l),Za .new 1 V.AB (Zb m.BF.l),Za .new 2 Yw (Zb m.AU.l),Za .new 8 (Y6 .new) (Zb (m.AL.l.map FK.gr)),Za .new 8 (Xo .new) (Zb (m.AE.l.map FZ.gr))])]) trivial ?_ ?_;simp only[Z2,Z5,CE];exact D_ (cs:=[m.name,Za .new 2 Yw (Zb m.vars.l),Za .new 1 V.AB (Zb m.BF.l),Za .new 2 Yw (Zb m.AU.l),Za .new 8 (Y6 .new) (Zb (m.AL.l.map FK.gr)),AZ 147 i 8 (m.AE.l.map FZ.gr)]) rfl zp ⟨Zd,Zd,Zd,Zd,Zd,Yp rfl zp (Aj _),AJ⟩;refine Zf (zi b Zj) ?_
 try clear p z b h a x
 rfl
def Je(s:Sl Int):V.Old (Za .old 1 () s):=Ka (λn y a=>by simp only[V.cells,BY,CL,CF]at a;subst a;exact .int _ _) s
def ZD(s:Sl bS):V.Old (Za .old 1 V.AB s):=Ka (λn y a=>by simp only[V.cells,BY,CL,CF]at a;subst a;exact .AB _) s
def iF(s:Sl (bS×Int)):V.Old (Za .old 2 Yw s):=Ka (λn y a=>by simp only[Xj,V.cells,BY,CL,CF]at a;rcases a with rfl|rfl<;>first|exact .int _ _|exact .AB _) s
def ACb(m:BR):V.Old (.view .old (Zw .old .old m)):=by
 refine .view _ λy a=>?_;simp only[Zj,V.cells,BY,CL,CF]at a;rcases a with rfl|rfl|rfl|rfl|rfl|rfl;exact .AB _;exact iF _;exact ZD _;exact iF _;exact Ka (λn y a=>by simp only[Zp,V.cells,BY,CL,CF]at a;rcases a with rfl|rfl|rfl|rfl|rfl|rfl|rfl|rfl<;>first|exact .int _ _|exact .AB _|exact ZD _) _
 exact Ka (λn y a=>by simp only[Z6,V.cells,BY,CL,CF]at a;rcases a with rfl|rfl|rfl|rfl|rfl|rfl|rfl|rfl<;>first|exact .int _ _|exact .AB _|exact ZD _) _
def ABD(q:BB×iS):(Qb .old q).cells=[Za .old 1 () (Zb q.1.BN),qI q.1.first,Za .old 1 () (Zb q.1.DU),Za .old 1 () (Zb q.1.DE),Za .old 2 (V6 .old) (Zb (q.1.r.AT.map λe=>(e.1,Zb e.2))),Za .old 1 () (Zb q.2),.bool q.1.lost]:=rfl
def y4(s:Sl (BB×iS)):V.Old (Za .old 7 (Qb .old) s):=Ka (λq y a=>by
 simp only[ABD,BY,CL,CF]at a;rcases a with rfl|rfl|rfl|rfl|rfl|rfl|rfl;exact Je _;exact .int _ _;exact Je _;exact Je _;exact Ka (λe y a=>by simp only[Q4,V.cells,BY,CL,CF]at a;rcases a with rfl|rfl<;>first|exact .int _ _|exact Je _) _
 exact Je _;exact .bool _) s
def MO(q:BB×iS):JX:=⟨Zb q.1.BN,q.1.first,Zb q.1.DU,Zb q.1.DE,Zb (q.1.AT.map λe=>(e.1,Zb e.2)),Zb q.2⟩
def fK{α β:Type}(c:AH)(m:Nat)(f:β->V)(h:α->β)(l:List α):Za c m f (Zb (l.map h))=Za c m (λx=>f (h x)) (Zb l):=by rcases l with _|⟨a,r⟩;rfl;show V.slice c ab m ((h a::r.map h).map f)=V.slice c ab m ((a::r).map _);rw[<- BI,EL];rfl
def rZ(c:AH)(q:BB×iS):Wt c q=Om c (MO q):=by rw[Xl,Q2];simp only[MO];rw[fK];rfl
def mK(c:AH)(l:List (BB×iS)):Za c 6 (Wt c) (Zb l)=Za c 6 (Om c) (Zb (l.map MO)):=by rw[fK];congr 1;funext q;exact rZ c q
def xd{L:List (BB×iS)}{v:Int}{i:Nat}:∀ x∈To L v i,x<(i:Int):=by intro x a;unfold To at a;obtain⟨k,b,rfl⟩:=CY.1 a;have:=DC.1 (IY.1 b).1;omega
def EM.gr{m:BR}(b:EM m):EM m.gr:=by refine⟨b.nm,?_,?_,?_,?_,?_,?_,?_,?_,?_,?_⟩<;>simp only[BR.gr,Zl,BC];exact b.var;exact b.ev;exact b.rg;intro x c;obtain⟨y,a,rfl⟩:=CY.1 c;have:=b.vt y a;simp only[FK.gr,Zl];exact this;intro x c;obtain⟨y,a,rfl⟩:=CY.1 c;have:=b.wy y a;simp only[FZ.gr,Zl];exact this;exact b.nv;exact b.ne;exact b.nr;exact b.nx;exact b.nw
def IQ.gr{m:BR}(t:IQ m):IQ m.gr:=by refine⟨?_,?_,?_⟩<;>simp only[BR.gr,Zl];intro x b;obtain⟨y,a,rfl⟩:=CY.1 b;exact t.ef y a;intro x b;obtain⟨y,a,rfl⟩:=CY.1 b;exact t.gu y a;intro x b;obtain⟨y,a,rfl⟩:=CY.1 b;exact t.en y a
structure QB(q:BB×iS):Prop where
 lo:q.1.lost=ab
 n:cb q
 so:aa q.1.BN<100000
def pu{m:BR}:(∀ q∈(m.p.statP Yq Yh).1,QB q)/\aa (m.p.statP Yq Yh).1<=4096:=by
 by_cases h:(m.p.statP Yq Yh).2.2=0
 rotate_left;rw[PM.statP_no h];exact⟨λq b=>(by cases b),CB _⟩;have⟨ok,e⟩:=PM.statP_ok h;rw[e];refine⟨λq b=>?_,by rw[P3];exact ok.le⟩;obtain⟨s,c,rfl⟩:=CY.1 b;have F:=m.p.allL_ok ok.EV s c;have g:=ok.EV.lw;have d:=ok.EV.lx;have i:=F.gl;have h2:(aa m.p.AE+1)*(aa m.p.AE+2)<=513*514:=cU zo zo
 have a:aa s.BN<100000:=by rcases F.sn with h|h<;>omega
 refine⟨ok.lost c,⟨?_,?_,?_,?_,?_,λe f=>?_⟩,a⟩;show aa s.BN<=_;omega;show aa s.DU<=_;omega;have:=F.fl;show aa s.DE<=_;omega;have:=F.el;show aa s.AT<=_;omega;show aa (m.p.reachL m.p.allL s)<=_;rw[PM.reachL,BC];have:=IJ (fun(v:Nat)=>(m.p.reachQ m.p.allL s).contains (v:Int)) (List.range (aa m.p.AN));rw[HV]at this;omega;have:=F.bl e f;show aa e.2<=_;omega
def QB.is{q:BB×iS}(h:QB q):ca q (SP q.1.r q.2):=by
 refine⟨?_,rfl,?_,?_,?_,?_⟩;exact(Zl _).symm;exact(Zl _).symm;exact(Zl _).symm;show q.1.AT=(Zb (q.1.r.AT.map λe=>(e.1,Zb e.2))).l.map _;rw[Zl,EL,PM.ends_r h.lo];have:((λe:Int×Sl Int=>(e.1,e.2.l))∘λe:Int×iS=>(e.1,Zb e.2))=id:=funext λe=>by simp[Zl]
 rw[this,List.map_id];exact(Zl _).symm
def QB.sw{q:BB×iS}(h:QB q):KM 1000000 (MO q):=by have⟨i,h2,g,f,d,c⟩:=h.n;refine⟨?_,?_,?_,?_,λe a=>?_,?_⟩;show aa (Zb _).l<=_;rw[Zl];exact i;show aa (Zb _).l<=_;rw[Zl];exact h2;show aa (Zb _).l<=_;rw[Zl];exact g;show aa (Zb _).l<=_;rw[Zl,BC];exact f;have a:e∈(Zb (q.1.AT.map λe=>(e.1,Zb e.2))).l:=a;rw[Zl]at a;obtain⟨x,b,rfl⟩:=CY.1 a;show aa (Zb _).l<=_;rw[Zl];exact c x b;show aa (Zb _).l<=_;rw[Zl];exact d
def AAv(c:AH)(q:BB×iS):Qb c q=.agg [Za c 1 () (Zb q.1.BN),qI q.1.first,Za c 1 () (Zb q.1.DU),Za c 1 () (Zb q.1.DE),Za c 2 (V6 c) (Zb (q.1.r.AT.map λe=>(e.1,Zb e.2))),Za c 1 () (Zb q.2),.bool q.1.lost]:=rfl
def Cd(l:iS):flat (l.map ())=l.map ():=by induction l with|nil=>rfl|cons a r ih=>show qI a::flat (r.map _)=_;rw[ih];rfl
def rP(G:Nat->V)(hE:CR G)(hGo:∀ g,(G g).Old)(m:BR)(hr:O_ m)(v:Int):Spec ai G 3 [Zw .old .old m,.int .i64 v] Zm (λv _=>v=.bool ad):=by
 have w:=hE.ok;have hW:=oH G hE;refine Zo 0 125 [.tmp 4] func3 λX=>?_;refine Zf Zj ?_;intro g2;refine BM (Z4 (λo=>o==2) (l:=[(1,.int .i64 v),(2,.view .new (Zw .old .old m))]) (m:=[]) ?_ trivial) ?_;simp -implicitDefEqProofs only[go_sem,seval];exact⟨Zd,CS (v:=Zw .old .old m) zp (by rw[Zj];exact zp)⟩;refine Zf Zj ?_;refine Ze w ?_ (s:=zl G w .old .old m hr);rintro _ ⟨b,rfl,hb⟩;cases b with|false=>refine Zg Zj ?_;refine Zc w ?_ (s:=hW);exact Zr|true=>
 have hf:=hb rfl;have hB:=hf.b hr;have hA:=λc d=>XL G hE c d m hB hf.t;have hY:=λc d=>uP G w c d m.gr hB.gr (λr=>(hf.t (by rw[<- m.gr_p];exact r)).gr);rw[m.gr_p]at hY;refine Zg Zj ?_;refine Zc w ?_ (s:=uA G w _ _ m hB);refine Zc w ?_ (s:=hY _ _);have hqb:=pu (m:=m);generalize m.p.statP Yq Yh=sp at hA hqb;obtain⟨L,BD,er⟩:=sp;obtain⟨hQ,T⟩:=hqb;replace hQ:∀ q∈L,QB q:=hQ;replace T:aa L<=4096:=T;have eL:(Zb L).l=L:=Zl _;refine Zs ?_;refine BM (AO (l:=[(1,.int .i64 v),(2,.view .new (Zw .old .old m)),(5,Za .new 7 (Qb .new) (Zb L)),(6,.int .i64 BD),(7,.int .i64 er)]) (m:=[]) (zq @Zj) zp) ?_;refine sA w λX1 H1 hb1 hI1=>?_;refine Zs ?_;refine Z ?_;refine Z8 [1,2,5,6,7] [] 2 (λt (_:Unit)=>[(8,.int .i64 t)]) (λ_ _=>[]) (λ_ _=>True) 0 () qz trivial zp zp ?_;intro t _ ht _ L1 hL1;by_cases ht1:t<2
 rotate_left;have Q:decide ((t:Int)<2)=ab:=zF;refine Zf Q ?_;refine Zc w ?_ (s:=hW);exact Zr;have Q:decide ((t:Int)<2)=ad:=zT;have wt:bx.wrap ((t:Int)+1)=(t:Int)+1:=Xi zo zo;have u1:(BD != BD)=ab:=zS;have u2:(er != er)=ab:=zS;have u3:((aa L:Int) != (aa L:Int))=ab:=zS;refine Zf (zi Q Zj) ?_;refine Zc w ?_ (s:=hA _ _);refine Zf (zi eL (zi u1 (zi u2 u3))) ?_;refine Z8 [1,2,5,6,7,8,9] [] (aa L) (λi (g:Nat)=>[(12,AZ 106 g 1 (To L v i)),(13,.int .i64 i)]) (λi g=>[(106,Z9 g (V.int .i64) (To L v i))]) (λ_ _=>True) 0 0 qz trivial (zq @Zj) zp ?_;intro i g hi _ L2 J
 by_cases D:i<aa L
 .have z:decide ((i:Int)<(aa L:Int))=ad:=zT;have R:=AY D;have K:=hQ _ (BT D);generalize L[i]=q at R K;have hfs:=gN L v i R;have S:=D8 L v i;have hfc:=xd (L:=L) (v:=v) (i:=i);rw[hfs]at J;generalize To L v i=F at J S hfc⊢;have hsl:=K.n.so;have eSo:(Zb q.1.BN).l=q.1.BN:=Zl _;have wi:bx.wrap ((i:Int)+1)=(i:Int)+1:=Xi zo zo;have f:=zi eL (zi R (zi D (zi eSo (zi Xl (zi AAv Ya)))));refine Ym (zi z eL) ?_;refine H_ (zi z eL) ?_
  repeat first|refine BK ?_|refine Zz ?_
  refine Zv ⟨λ_=>.bool ad,λ_=>.pure⟩ zk w zk zk ?_;refine Xc f ?_;refine⟨⟨zk,?_⟩,?_⟩;refine(show Spec ai G 9 (List.map (V.recol AH.ent) [Wt .new q,Hb .old (SP q.1.r q.2)]) Zm _ from ?_);rw[BI,BI,BV,U7,XA];exact(A6 G w .old .old q (SP q.1.r q.2) K.is K.n).mono λv _ e=>by rw[e];rfl
  refine Z ?_;refine Z8 [1,2,5,6,7,8,9,13] [] (aa q.1.BN) (λk (g:Nat)=>[(12,AZ 106 g 1 (if(q.1.BN.take k).contains v=ad then F++[(i:Int)]else F)),(14,.int .i64 k)]) (λk g=>[(106,Z9 g (V.int .i64) (if(q.1.BN.take k).contains v=ad then F++[(i:Int)]else F))]) (λ_ _=>True) 0 g qz trivial (zq @Xl) zp ?_;intro k g hk _ L3 a;by_cases h:k<aa q.1.BN
  rotate_left;have hke:k=aa q.1.BN:=zo;have hlt3:decide ((aa q.1.BN:Int)<(aa q.1.BN:Int))=ab:=zF;rw[hke,B_];generalize(if q.1.BN.contains v=ad then F++[(i:Int)]else F)=F2 at J⊢;refine Zf (zi @LM (zi wi f)) ?_;exact J _ ⟨D,g,AJ,AO (zq (zi @Xl wi)) zp⟩;have hgk:=AY h;have htk:q.1.BN.take (k+1)=q.1.BN.take k++[q.1.BN[k]]:=DO h
  have hct:(q.1.BN.take (k+1)).contains v=((q.1.BN.take k).contains v||q.1.BN[k]==v):=by rw[htk,NK,NK,WA,HR,TF,DZ];congr 1;rw[FW,CX,CX];exact eq_comm
  rw[hct]at a;generalize q.1.BN[k]=u at hgk a;generalize(q.1.BN.take k).contains v=c at a⊢;have M:bx.wrap ((k:Int)+1)=(k:Int)+1:=Xi zo zo;refine Ym (zi h f) ?_;have f3:=zi hgk (zi h (zi M f));cases Y:(u==v);rw[Y,DZ]at a;refine Zf (zi Y f3) ?_;exact a _ ⟨h,g,AJ,AO (zq (zi @Xl M)) zp⟩;rw[Y,KG,AF rfl]at a;cases c;rw[AA zS];by_cases hF:F=[];subst hF;refine Zf (zi Y (zi (@Qo Int 106 g 1) f3)) ?_;intro g105;refine Yg (f:=V.int .i64) (l:=([]:iS)) (l2:=[(i:Int)]) BE rfl rfl rfl zp (Z3 zo zS) λW=>?_;refine Zs ?_;refine Zf M ?_;exact a _ ⟨h,W,AJ,AO (zq (zi @Xl M)) zp⟩;have hpos:=JH.2 hF;obtain⟨x,hx⟩:∃ x,F[aa F-1]?=ae x:=⟨_,AY zo⟩;have hxi:=hfc x (DY hx);have E:AZ 106 g 1 F=.A_ 106 g 0 (aa F) 1:=Xs _ _ _ hF;have H:Z9 g (V.int .i64) F=.cells .new g 0 (F.map (V.int .i64)):=by rw[X2 _ _ hF,Cd]
  have e0:((aa F:Int)==0)=ab:=by rw[FD];omega
  have w0:bx.wrap ((aa F:Int)-1)=((aa F-1:Nat):Int):=by rw[Xi zo zo];omega
  have hc:(F.map (V.int .i64))[aa F-1]?=ae (.int .i64 x):=by rw[ED,hx];rfl
  have I:aa (F.map (V.int .i64))=aa F:=BC ..;have U:aa F-1<aa F:=zo;have hF2:aa F-1+1<=aa F:=zo;have ui:(x != (i:Int))=ad:=by rw[JJ];omega
  refine Zf (zi Y (zi E (zi H (zi e0 (zi w0 (zi hc (zi I (zi U (zi hF2 (zi ui (zi @GV (zi @EE f3)))))))))))) ?_;intro g105;refine⟨Z3 zo zo,BO _,CB _,λW=>?_⟩;refine Zf M ?_;have A:F++[(i:Int)]≠[]:=zS;have e1:AZ 106 W 1 (F++[(i:Int)])=.A_ 106 W 0 (aa F+1) 1:=by rw[Xs _ _ _ A,BQ];rfl
  have e2:Z9 W (V.int .i64) (F++[(i:Int)])=.cells .new W 0 ((F.map (V.int .i64)).take (aa F)++[.int .i64 i]):=by rw[X2 _ _ A,Cd,DL,HY (WN I)];rfl
  exact a _ ⟨h,W,AJ,AO (zq (zi @Xl (zi M e1))) (zq e2)⟩;rw[AF rfl];have A:F++[(i:Int)]≠[]:=zS;have E:AZ 106 g 1 (F++[(i:Int)])=.A_ 106 g 0 (aa F+1) 1:=by rw[Xs _ _ _ A,BQ];rfl
  have H:Z9 g (V.int .i64) (F++[(i:Int)])=.cells .new g 0 ((F++[(i:Int)]).map (V.int .i64)):=by rw[X2 _ _ A,Cd]
  have e0:(((aa F+1:Nat):Int)==0)=ab:=by rw[FD];omega
  have w0:bx.wrap (((aa F+1:Nat):Int)-1)=((aa F:Nat):Int):=by rw[Xi zo zo];omega
  have hc:((F++[(i:Int)]).map (V.int .i64))[aa F]?=ae (.int .i64 i):=by rw[ED,JS ql,TQ];rfl
  have I:aa ((F++[(i:Int)]).map (V.int .i64))=aa F+1:=by rw[BC,BQ];rfl
  have U:aa F<aa F+1:=GH _;have ui:((i:Int) != (i:Int))=ab:=zS;refine Zf (zi Y (zi E (zi H (zi e0 (zi w0 (zi hc (zi I (zi U (zi ui (zi @GV (zi @EE f3))))))))))) ?_;exact a _ ⟨h,g,AJ,AO (zq (zi @Xl (zi M E))) (zq H)⟩
 have hie:i=aa L:=zo;have z:decide ((aa L:Int)<(aa L:Int))=ab:=zF;rw[hie];have S:=D8 L v (aa L);have hfk:To (L.map (J_ .old)) v (aa L)=To L v (aa L):=by unfold To;congr 1;refine TH λk _=>?_;rw[ED];cases L[k]? <;> rfl
 generalize hFF:To L v (aa L)=F at S hfk⊢;refine BM (Z4 (λo=>o==106) (l:=[(1,.int .i64 v),(2,.view .old (Zw .old .old m)),(5,Za .old 7 (Qb .old) (Zb L)),(6,.int .i64 BD),(7,.int .i64 er),(8,.int .i64 t),(9,Za .new 6 (Wt .new) (Zb L)),(12,qE (Zb F)),(13,.int .i64 (aa L))]) (m:=[]) ?_ trivial) ?_;simp -implicitDefEqProofs only[go_sem,seval];exact⟨Zd,Zd,Zd,Zd,Zd,Zd,Zd,Yp (l:=F) (f:=V.int .i64) rfl zp BE,Zd⟩;refine Zf (zi z eL) ?_;have O:((Zb L).map (J_ .old)).l=L.map (J_ .old):=by cases L<;>rfl
 refine Zc w ?_ (ha:=by
  simp only[BI,BV,Xr,Xz AH.ent AH.new 6 (U7 AH.ent AH.new)];rw[fW]) (s:=(D7 G w AH.new.ent AH.new.ent ((Zb L).map (J_ AH.new.ent)) v (by show aa ((Zb L).map (J_ .old)).l<_;rw[O,BC];omega) (by intro s P;have P:s∈((Zb L).map (J_ .old)).l:=P;rw[O]at P;obtain⟨q,K,rfl⟩:=CY.1 P;exact(hQ q K).so)))
 rw[O,BC,hfk];refine Xc (zi Xl @GN) ?_;refine Zc w ?_ (s:=Rp G w _ _ (Zb F) (Zb F) rfl (by rw[Zl];omega));refine Z ?_;refine BM (AO (l:=[(1,.int .i64 v),(2,.view .old (Zw .old .old m)),(5,Za .old 7 (Qb .old) (Zb L)),(6,.int .i64 BD),(7,.int .i64 er),(8,.int .i64 t),(9,Za .new 6 (Om .new) (Zb (L.map MO))),(15,.int .i64 0)]) (m:=[]) (by rw[<- mK];simp -implicitDefEqProofs only[go_sem,seval,Zj];try rfl) zp) ?_;have hS:∀ x∈(Zb (L.map MO)).l,KM 1000000 x:=by rw[Zl];intro x hx;obtain⟨q,K,rfl⟩:=CY.1 hx;exact(hQ q K).sw
 have hSl:aa (Zb (L.map MO)).l<=4096:=by rw[Zl,BC];exact T
 generalize Zb (L.map MO)=xs0 at hS hSl⊢;refine Xw [1,2,5,6,7,8] [] (fun(y:Sl JX×Nat)=>[(9,Za .new 6 (Om .new) y.1),(15,.int .i64 y.2)]) (λ_=>[]) (λy=>aa y.1.l<=4096/\(∀ x∈y.1.l,KM 1000000 x)/\y.2<=5000) (λy=>5001-y.2) (xs0,0) ⟨hSl,hS,by show 0<=5000;omega⟩ zp zp ?_;rintro⟨xs,j⟩ ⟨N,C,hj⟩ L4 hL4;replace N:aa xs.l<=4096:=N;replace C:∀ x∈xs.l,KM 1000000 x:=C;replace hj:j<=5000:=hj;by_cases hj1:j<aa xs.l
 .have B:decide ((j:Int)<(aa xs.l:Int))=ad:=zT;have hgj:=AY hj1;have wj:bx.wrap ((j:Int)+1)=(j:Int)+1:=Xi zo zo;refine Ym B ?_;refine Z0 ?_
  repeat first|refine BK ?_|refine Zz ?_
  refine wN [(1,.int .i64 v),(2,.view .old (Zw .old .old m)),(5,Za .old 7 (Qb .old) (Zb L)),(6,.int .i64 BD),(7,.int .i64 er),(8,.int .i64 t),(15,.int .i64 j)] [] [(9,.row ad 6 4096 (Ff 1000000))] hb1 hI1 hGo (zH 1000000 zo) (by intro s P;simp at P;subst P;exact λi _=>jc i) (by intro p hp;simp at hp;subst hp;exact λi _=>jc i) zk zk zk rfl ?_ trivial ?_;simp -implicitDefEqProofs only[go_sem,seval];exact⟨.int _ _,ACb _,y4 _,.int _ _,.int _ _,.int _ _,.int _ _⟩;simp -implicitDefEqProofs only[go_sem,seval,List.dropLast,hgj,Q2];simp only[<- Q2];refine⟨⟨_,Q2 _ _,rfl,iy (C _ (BT hj1))⟩,r6 N C,?_⟩;rintro _ ⟨v1,_,rfl,hv,rfl⟩;obtain⟨xs2,rfl,h1,h2⟩:=se hv;refine Zs ?_;refine Zf wj ?_;exact hL4 _ ⟨(xs2,j+1),by show 5001-(j+1)<5001-j;omega,⟨h1,h2,by show j+1<=5000;omega⟩,AO zp zp⟩
 have B:decide ((j:Int)<(aa xs.l:Int))=ab:=zF;refine Zf (zi B wt) ?_;exact hL1 _ ⟨ht1,(),AJ,AO (zq @Zj) zp⟩
end Go.Hs
namespace Go.Proofs.YtkennpiglkfalaaGreatDoor
open Go.RowKit Go.Hs
set_option maxRecDepth 100000
def O9:List (String × DataW Unit):=[("math/bits.deBruijn32tab",Rows.laid_math_bits_deBruijn32tab),("math/bits.deBruijn64tab",Rows.laid_math_bits_deBruijn64tab),("internal/strconv.uint64pow10",Rows.laid_internal_strconv_uint64pow10),("unicode/utf8.acceptRanges",Rows.laid_unicode_utf8_acceptRanges),("strconv.ErrRange",Rows.laid_strconv_ErrRange),("strconv.ErrSyntax",Rows.laid_strconv_ErrSyntax),("hopscotch/lex.signs",Rows.laid_hopscotch_lex_signs),("unicode/utf8.first",Rows.laid_unicode_utf8_first)]
noncomputable def low:Nat:=(World.holding ai default ⟨#[],#[],[]⟩).heap.size
def b32:iS:=[0,1,28,2,29,14,24,3,30,22,20,15,25,17,4,8,31,27,13,23,21,19,16,7,26,12,18,6,11,5,10,9]
def b64:iS:=0::1::56::2::57::49::28::3::61::58::42::50::38::29::17::4::62::47::59::36::45::43::51::22::53::39::33::30::24::18::12::5::63::55::48::27::60::41::37::16::46::35::44::21::52::32::23::11::54::26::40::15::34::20::31::10::25::14::19::9::13::8::7::6::[]
def acR:iS:=[128,191,160,191,128,159,144,191,128,143]++List.replicate 22 0
def ABx:ByteArray:={data:=#[118,97,108,117,101,32,111,117,116,32,111,102,32,114,97,110,103,101]}
def ABy:ByteArray:={data:=#[105,110,118,97,108,105,100,32,115,121,110,116,97,120]}
def S6(cs:Array Value):Obj->Obj
 |.cells _ t frozen=>.cells cs t frozen|o=>o
noncomputable def kz(os:Os):World:=
 let w0:=World.holding ai os ⟨#[.cells #[.string ABx] 409,.cells #[.string ABy] 409],#[],[]⟩
 {w0 with heap:=(((((((w0.heap.modify 2 (S6 #[.iface 407 (.pointer (ae ⟨low,0,ah⟩))])).modify 5 (S6 #[.iface 407 (.pointer (ae ⟨low+1,0,ah⟩))])).modify 6
   (S6 (bz.map (bp .u64)).toArray)).modify 7 (S6 (b32.map (bp .u8)).toArray)).modify 8 (S6 (b64.map (bp .u8)).toArray)).modify 4 (S6 (acR.map (bp .u8)).toArray)).modify
   0 (S6 (signsL.map λs=>Value.string ⟨s.toArray⟩).toArray)).modify 3 (S6 (Pinned.utf8FirstZ.map fun(n:Nat)=>bp .u8 (n:Int)).toArray)}
def qU(os:Os)(a:Array Value):laidMet ai O9 ((kz os).forCall (λ_ _=>0) ⟨#[],a,[]⟩).memory:=
 laidMet_of_run' 8 zk zk
open Go.RowKit Go.Hs
set_option maxRecDepth 100000
def Wz{P:Program}{W:World}{x:String×DataW Unit}{r:List (String×DataW Unit)}(h:laidMet P (x::r) W):laidMet P r W:=by have⟨n,d⟩:=x;have⟨ps,⟨s,t0,p,t,q,f,l,i,g,m,j,o⟩,e,a⟩:=h;subst o;exact⟨f,j,(WG.1 e).2.1,λb c k=>a b c (DX.2 (.inr k))⟩
noncomputable def gE(m:Int):Nat->V:=λg=>if g=2 then .view .old (.iface 407 (.view .old (.agg [])))else if g=6 then .view .old (.agg (bz.map (V.int .u64)))
 else if g=0 then .view .old (.agg (signsL.map V.AB))else if g=1 then .view .old (.int .i64 m)else .top
def C8(f:AH->AH):∀ l:iS,Xd f (l.map (V.int .u64))=l.map (V.int .u64)
 |[]=>rfl|x::r=>by simp only[BI,Xd];rw[C8 f r]<;>rfl
def C7(f:AH->AH):∀ l:List bS,Xd f (l.map V.AB)=l.map V.AB
 |[]=>rfl|x::r=>by simp only[BI,Xd];rw[C7 f r]<;>rfl
def ACC(m:Int):CR (gE m) where
 ok:=λg=>by unfold gE;split;exact⟨rfl,.view _ _ λx a=>by simp[V.cells]at a;subst a;exact .iface _ _ (.view _ _ λx a=>by simp[V.cells]at a)⟩;split;refine⟨by simp only[V.recol,AH.ent,C8],.view _ _ λx a=>?_⟩;obtain⟨n,_,rfl⟩:=CY.1 a;exact .int _ _;split;refine⟨by simp only[V.recol,AH.ent,C7],.view _ _ λx a=>?_⟩;obtain⟨n,_,rfl⟩:=CY.1 a;exact .AB _;split;exact⟨rfl,.view _ _ λx a=>by simp[V.cells]at a;subst a;exact .int _ _⟩;exact⟨rfl,.top⟩
 er:=⟨_,_,_,rfl⟩
 tab:=⟨_,rfl⟩
 sg:=⟨_,rfl⟩
 ml:=⟨_,m,rfl⟩
def ACD(m:Int)(g:Nat):(gE m g).Old:=by
 unfold gE;split;exact .view _ λx a=>by simp[V.cells]at a;subst a;exact .iface _ _ (.view _ λx a=>by simp[V.cells]at a)
 split;refine .view _ λx a=>?_;obtain⟨n,_,rfl⟩:=CY.1 a;exact .int _ _;split;refine .view _ λx a=>?_;obtain⟨n,_,rfl⟩:=CY.1 a;exact .AB _;split;exact .view _ λx a=>by simp[V.cells]at a;subst a;exact .int _ _
 exact .top
def ku:ai.globalNamed "strconv.ErrRange" = ae 2:=zk
def sY:(ai.globals[2]?).map (·.type)=ae 360:=zk
def v7:ai.cellsOf 409=1:=zk
def ij:ai.cellsOf 9=1:=zk
def lF: "*" ++ "errors.errorString" = "*errors.errorString" := by decide
def ACm(u:TypeId)(h:ai.typeName? 3 u=ae "*errors.errorString"):u=407 :=
 typeName_ptr_named (nm := "errors.errorString") (by rw [lF];kernel_rfl) zk zd u (by rw [lF];exact h)
def ZW:ai.globalNamed "internal/strconv.uint64pow10" = ae 6:=zk
def zv:∃ t n,(ai.globals[6]?).map (·.type)=ae t/\ai.underlying t=ae (.array n 218)/\ai.cellsOf t=n/\n=20:=by refine⟨(((ai.globals[6]?).map (·.type)).getD 0),20,by kernel_rfl,by kernel_rfl,by kernel_rfl,rfl⟩
def uI{W:World}(h:laidMet ai O9 W):Lib.TabIs ai W "internal/strconv.uint64pow10" .u64 bz:=by
 obtain⟨t,n,h1,h2,h3,rfl⟩:=zv;have e:(Rows.laid_internal_strconv_uint64pow10:DataW Unit)=Lib.tabData .u64 bz:=by rfl
 have h4:=Wz (Wz h);rw[e]at h4;exact Lib.tabIs_of_head ZW h1 h2 underlying218 zk h3 h4
def ud{W:World}(h:laidMet ai O9 W):∃ b off,W.cell? ⟨2,0,ah⟩=ae (.iface 407 (.pointer (ae ⟨b,off,ah⟩))):=by have⟨a,s,e,h2,_,_⟩:=laid_sentinel (Wz (Wz (Wz (Wz h)))) ku sY underlying360 ACm underlying407 underlying409 rfl rfl underlying9 v7 ij;have f:=World.var?_cell ku e 0;have c:=World.cell?_spot h2;have⟨b,off,d⟩:=a;have c:d=ah:=c;subst c;exact⟨b,off,by simpa using f⟩
def Xe{H:Type}(zs:List bS):DataW H:=.agg (zs.map λz=>.lit (.string z))
def uG{H:Type}{enc:TypeId×Value->H}{P:Program}{w:World}{base:Nat}{o:Nat->Bool}{f:Bool}{a:Nat}{t e:TypeId}{n:Nat}{cs:List Value}{c:List bS}{p:List MemPlace}(v:P.underlying t=ae (.array n e))(y:P.underlying e=ae .string)(l:P.cellsOf e=1)(k:P.cellsOf t=n)(h:bq enc P w base o f a t cs=ae (Xe c,p)):aa cs=aa c/\∀ i (hi:i<aa c),∃ s:ByteArray,cs[i]?=ae (.string s)/\s.data.toList=c[i]:=by
 rcases a with _|a;simp[bq]at h;simp only[bq,v,l,k,GV]at h;split at h;rename_i D;have⟨xs,m,u⟩:=I_.1 h;have d:xs.map (·.1)=c.map λz=>(DataW.lit (.string z):DataW H):=by have:=BU Prod.fst u;simpa[Xe]using this
 have r:aa xs=n:=by simpa using Lib.mapM_length m
 have q:aa c=n:=by have:=BU List.length d;simp at this;omega
 refine⟨by omega,λi hi=>?_⟩;have j:i<n:=zo;have⟨b,B,x⟩:=Lib.mapM_at m i i (by simp[j]);obtain⟨z,A,rfl,_⟩:=DataW.trod_string y x;have C:cs[i]?=ae (.string z):=by have:=BU (·[0]?) A;simpa[OU,QG]using this
 have h2:(xs.map (·.1))[i]?=ae (DataW.lit (.string z.data.toList):DataW H):=by simp[B]
 rw[d,ED,AY hi]at h2;refine⟨z,C,?_⟩;have g:(DataW.lit (.string c[i]):DataW H)=.lit (.string z.data.toList):=EY h2;injection g with g;injection g with g;exact g.symm;cases h
def gSg:ai.globalNamed "hopscotch/lex.signs" = ae 0:=zk
def gSgType:(ai.globals[0]?).map (·.type)=ae 268:=zk
def qq{W:World}(h:laidMet ai O9 W):∃ cs:Array Value,W.var? ai "hopscotch/lex.signs" = ae cs∧cs.size=14∧∀ i (hi:i<aa signsL),∃ s:ByteArray,cs[i]? = ae (.string s)∧s.data.toList=signsL[i]:=by
 have e:(Rows.laid_hopscotch_lex_signs:DataW Unit)=Xe signsL:=by rfl
 have h4:=Wz (Wz (Wz (Wz (Wz (Wz h)))));rw[e]at h4;have⟨ps,⟨g',t',cs,fuel,p,q,hg',ht',hvar,hd,_,_⟩,_⟩:=h4;obtain rfl:=EY (gSg.symm.trans hg');obtain rfl:=EY (gSgType.symm.trans ht');have⟨h1,h2⟩:=uG underlying268 underlying9 ij zk hd;refine⟨_,hvar,(by simpa using h1:cs.size=aa signsL).trans rfl,λi hi=>?_⟩;have⟨s,h3,h4⟩:=h2 i hi;exact⟨s,by simpa using h3,h4⟩
def zD{W:World}(h:W.ShapedOpen ai):∃ m,W.cell? ⟨1,0,ah⟩=ae (.int .i64 m):=by
 obtain⟨e,l,j,k⟩:=h.1 1 #[.int .i64 0] 3 (JC zk) zk;obtain⟨n,c,_,d⟩:=k zk;rw[show ai.cellTypes ai.depth 3=ae [3] by kernel_rfl]at c;cases c;have g:0<e.size:=by rw[j];decide
 obtain⟨u,f,a⟩:=d 0 e[0] (by simp[g]);have:u=3:=by simpa using f.symm
 subst this;have b:W.cell? ⟨1,0,ah⟩=ae e[0]:=by simp[World.cell?,l,g]
 rw[b];unfold Cell.ok at a;rw[underlying3]at a;cases i:e[0]<;>rw[i]at a<;>first|(obtain⟨rfl,_⟩:=a;exact⟨_,rfl⟩)|simp at a
def ACR{W:World}(h:laidMet ai O9 W)(hS:W.ShapedOpen ai):∃ m,∀ g,FI (Uv W) g (gE m g):=by
 obtain⟨m,hml⟩:=zD hS;refine⟨m,λg=>?_⟩;unfold gE;split;rename_i hg;subst hg;obtain⟨b,off,h1⟩:=ud h;refine⟨?_,AJ⟩;refine .view .old _ 2 0 (λ_=>.iface 407 (.pointer (ae ⟨b,off,ah⟩))) (λi hi=>?_) (λi hi=>?_);have:i=0:=by simpa[V.cells]using hi
 subst this;refine⟨by show(W.cell? _).isSome=ad;rw[h1]<;>rfl,aG _ _ h1,h1,rfl⟩;have:i=0:=by simpa[V.cells]using hi
 subst this;exact .iface _ _ _ (.view .old _ b off (λ_=>.nilIface) (λi hi=>by simp[V.cells]at hi) (λi hi=>by simp[V.cells]at hi));split;rename_i hg;subst hg;have ht:=uI h;have hc:∀ i (hi:i<aa bz),W.cell? ⟨6,i,ah⟩=ae (.int .u64 (bz.getD i 0)):=λi hi=>ht.cell ZW i hi;have hlen:aa bz=20:=Lib.pow10Tab_length;have hlt:6<W.heap.size:=aG _ _ (hc 0 (by omega));have hv:W.var? ai "internal/strconv.uint64pow10" = ae (bz.map fun z=>bp .u64 z).toArray:=ht;refine⟨?_,?_⟩;refine .view .old _ 6 0 (λi=>.int .u64 (bz.getD i 0)) (λi hi=>?_) (λi hi=>?_);have hi:i<aa bz:=by simpa[V.cells]using hi
 rw[EE];exact⟨by show(W.cell? _).isSome=ad;rw[hc i hi]<;>rfl,hlt,hc i hi,rfl⟩;have hi':i<aa bz:=by simpa[V.cells]using hi
 have key:∀ v,v=V.int .u64 (bz.getD i 0)->AI (Uv W) (bp .u64 (bz.getD i 0)) v:=λv e=>by rw[e];exact .int _ _
 exact key _ (by simp[V.cells,List.getD,hi']);refine⟨hlt,?_⟩;unfold World.var? at hv;rw[ZW]at hv;have hv:(match W.heap[6]? with|some (Obj.cells cs _ _)=>ae cs|_=>ah)=ae (bz.map λz=>bp .u64 z).toArray:=hv;split at hv;rename_i cs t fr hh;cases hv;exact⟨_,t,fr,hh,by simp⟩;cases hv;split;rename_i hg;subst hg;obtain⟨cs,hv,hsz,hcs⟩:=qq h;have h0:=λi=>World.var?_cell gSg hv i;have hc:∀ i (hi:i<aa signsL),∃ s:ByteArray,W.cell? ⟨0,i,ah⟩=ae (.string s)/\s.data.toList=signsL[i]:=λi hi=>by obtain⟨s,h1,h2⟩:=hcs i hi;exact⟨s,by rw[h0 i];exact h1,h2⟩
 have hlt:0<W.heap.size:=by obtain⟨s,h1,_⟩:=hc 0 zd;exact aG _ _ h1
 refine⟨?_,?_⟩;refine .view .old _ 0 0 (λi=>(cs[i]?).getD undef) (λi hi=>?_) (λi hi=>?_);have hi:i<aa signsL:=by simpa[V.cells]using hi
 obtain⟨s,h1,_⟩:=hcs i hi;rw[EE,h1];have h2:W.cell? ⟨0,i,ah⟩=ae (.string s):=by rw[h0 i];exact h1
 exact⟨by show(W.cell? _).isSome=ad;rw[h2]<;>rfl,hlt,h2,rfl⟩;have hi':i<aa signsL:=by simpa[V.cells]using hi
 obtain⟨s,h1,h2⟩:=hcs i hi';rw[h1];have key:∀ v,v=V.AB signsL[i]->AI (Uv W) (Value.string s) v:=λv e=>by rw[e];exact .AB _ _ h2
 exact key _ (by simp[V.cells]);refine⟨hlt,?_⟩;unfold World.var? at hv;rw[gSg]at hv;have hv:(match W.heap[0]? with|some (Obj.cells cs _ _)=>ae cs|_=>ah)=ae cs:=hv;split at hv;rename_i cs' t fr hh;cases hv;exact⟨_,t,fr,hh,by rw[hsz]<;>rfl⟩;cases hv;split;rename_i hg;subst hg;refine⟨?_,AJ⟩;refine .view .old _ 1 0 (λ_=>.int .i64 m) (λi hi=>?_) (λi hi=>?_);have:i=0:=by simpa[V.cells]using hi
 subst this;refine⟨by show(W.cell? _).isSome=ad;rw[hml]<;>rfl,aG _ _ hml,hml,rfl⟩;have:i=0:=by simpa[V.cells]using hi
 subst this;exact .int _ _;exact⟨.top _,AJ⟩
open Go.RowKit Go.Hs Go.ChangeShapes Go.WideShapes Go.ChangeAt
open Go.ChangeMaps (open_string shut_string)
set_option maxRecDepth 100000
def ss{k:IntKind}{n:Int}(h:(Lit.int k n).wf=ad):HP k n:=by simpa[Lit.wf,HP]using h
variable{W:World}{H:Type}{enc:TypeId×Value->H}{b0:Nat}{v:Value}{d:DataW H}{ps:List MemPlace}
def ABj(b:Value.okWide ai W .any b0 3 v)(h:DataW.Trod enc ai W 0 (λ_=>ad) ad 3 v d ps):∃ x:Int,HP .i64 x/\AI (Uv W) v x:=by obtain⟨n,rfl,_,_,a⟩:=open_int underlying3 b h;exact⟨n,ss a,.int _ _⟩
def own:ownKnob ai.godebug=ah:=zk
def XW:laidOutB ai=ad:=zk
end Go.Proofs.YtkennpiglkfalaaGreatDoor
namespace Go.Hs
section
variable{P:Program}{W:World}
def ReadsB(P:Program)(W:World){α:Type}(t:TypeId)(m:Nat)(B:α->Prop)(f:α->List V):Prop:=
 P.cellsOf t=m/\(∀ a,aa (f a)=m)/\∀ {H} enc held fuel cs (x:DataW H×List MemPlace),
  bq enc P W 0 (λ_=>ad) held fuel t cs=ae x->(x.1.weights P t).all (· <= reachBytes)=ad->∃ a,B a/\CI (Uv W) cs (f a)
def ReadsB.int{t k}(d:P.underlying t=ae (.int k))(e:P.cellsOf t=1):ReadsB P W t 1 (HP k) (λn=>[V.int k n]):=by refine⟨e,λ_=>rfl,λenc a b f x h _=>?_⟩;obtain⟨n,rfl,_,c⟩:=DataW.trod_int d h;exact⟨n,by simpa[Lit.wf,HP]using c,P8 rfl (.int _ _) LP⟩
def ReadsB.AB{t}(d:P.underlying t=ae .string)(e:P.cellsOf t=1):ReadsB P W t 1 (λs=>s.length<=reachBytes) (λs:bS=>[V.AB s]):=by refine⟨e,λ_=>rfl,λenc a b f x h c=>?_⟩;obtain⟨s,rfl,rfl,_⟩:=DataW.trod_string d h;exact⟨s.data.toList,by simpa[DataW.weights]using c,P8 rfl (.AB _ _ rfl) LP⟩
def yJ{H e l}(h:(DataW.weightsAll P e l).all (· <= reachBytes)=ad){d:DataW H}(a:d∈l):(d.weights P e).all (· <= reachBytes)=ad:=by induction l with|nil=>grind|cons x r ih=>simp only[DataW.weightsAll,LF,BP]at h;grind
def G1{H ts l}(h:(bu P ts l).all (· <= reachBytes)=ad){j:Nat}{t}{d:DataW H}(a:ts[j]?=ae t)(b:l[j]?=ae d):(d.weights P t).all (· <= reachBytes)=ad:=by induction ts generalizing l j with|nil=>grind|cons t0 ts ih=>rcases l with _|⟨x,r⟩;grind;simp only[bu,LF,BP]at h;grind
def ReadsB.field{α H t m B}{f:α->List V}(b:ReadsB P W t m B f){enc held i j n}{cs:List Value}{xs:List (DataW H×List MemPlace)}{ts}(c:(bu P ts (xs.map (·.1))).all (· <= reachBytes)=ad)(d:ts[j]?=ae t)(h:bq enc P W 0 (λ_=>ad) held n t ((cs.drop i).take (P.cellsOf t))=xs[j]?)(e:j<xs.length):∃ a,B a/\CI (Uv W) ((cs.drop i).take m) (f a):=by rw[b.1,AY e]at h;exact b.2.2 _ _ n _ _ h (G1 c d zG)
abbrev FT:=@ReadsB.field
def ReadsB.slice{α t e m B f}(ht:P.underlying t=ae (.slice e))(hc:P.cellsOf t=1)(hm:0<m)(hb:Nat.ble 1 (P.bytesOf e)=ad)(he:ReadsB P W e m B (λa=>(f a).cells)):ReadsB P W t 1 (λs:Sl α => s.l.length<=reachBytes/\∀ a∈s.l,B a) (λs:Sl α => [Za .any m f s]):=by
 refine⟨hc,λ_=>rfl,λenc z fuel cs x h K=>?_⟩;have⟨V,u,S⟩:=he;rcases DataW.trod_slice ht h with ⟨rfl,_⟩|⟨a,len,E,D,rest,n,_,rfl,O,_,hl,_,hel,d,Q,_⟩;exact⟨.nil,⟨CB _,λa C=>by cases C⟩,P8 rfl .AG LP⟩;have⟨hrl,r⟩:=Q rfl;rw[V]at d r;rw[O]at K;simp only[DataW.weights,ht,HQ,LF,BP,CM,BC]at K;have hle:len<=reachBytes:=by have c:=LK hb;have h2:=CT (Nat.mul_le_mul_left (aa D+aa rest) c) K.1;omega
 have A:0<E->a.spot=ah:=by
  intro N;have G:∀ j (o),j=0->(W.cells? 0 (a.add (j*m)) m).bind (bq enc P W 0 (λ_=>ad) z n e)=o->o.isSome=ad->a.spot=ah:=by intro j o T hj ho;subst T;rw[NS]at hj;rw[QR]at ho;obtain⟨y,rfl⟩:=ho;have⟨g,c,_⟩:=cX.1 hj;have⟨_,h2,F⟩:=World.cells?_some c;have M:=F 0 hm;rw[AY zo]at M;exact World.cell?_spot M
  rcases MI len with c|c;have h2:=r 0 zo;exact G _ _ zo h2 (by rw[AY zo];rfl);have h2:=d 0 c;exact G _ _ rfl h2 (by rw[AY zo];rfl)
 rcases MI E with N|N;have c:len=0:=zo;subst N c;exact⟨.mk ab [],⟨CB _,λa C=>by cases C⟩,P8 rfl (.slice0 _ _ _ a) LP⟩;have R:=A N;have⟨b,q,sp⟩:=a;have R:sp=ah:=R;subst R;have⟨l,H,hp⟩:=je (p:=λi  a=>B a/\∃ g,W.cells? 0 (Addr.add ⟨b,q,ah⟩ (i*m)) m=ae g/\CI (Uv W) g (f a).cells) len (by intro i w;have c:=d i w;rw[AY zo]at c;have⟨g,h2,F⟩:=cX.1 c;have⟨a,hB,C⟩:=S enc z n g _ F (yJ K.2.1 (CY.2 ⟨_,BT _,rfl⟩));exact⟨a,hB,g,h2,C⟩)
 refine⟨.mk ab l,⟨by show aa l<=_;omega,λa C=>?_⟩,P8 rfl ?_ LP⟩;obtain⟨i,w,rfl⟩:=List.mem_iff_getElem.1 C;exact(hp i _ (AY w)).1;have Y:∀ v∈l.map f,aa v.cells=m:=by intro v hv;obtain⟨a,_,rfl⟩:=CY.1 hv;exact u a
 have I:=V2 Y;rw[BC]at I;have k:∀ i (w),∃ y,W.cell? ⟨b,q+i,ah⟩=ae y/\y.oneCell'=ad/\AI (Uv W) y (flat (l.map f))[i]:=by
  intro i w;have U:i<aa l*m:=by rw[<- I];exact w
  have hq:=Nat.div_lt_of_lt_mul (by rw[TP];exact U);have L:i%m<m:=Nat.mod_lt _ hm;have J:i/m*m+i%m=i:=by rw[TP];exact Nat.div_add_mod i m
  have⟨_,g,c,h2⟩:=hp (i/m) _ (AY hq);have⟨_,F,M⟩:=World.cells?_some c;have h5:=M (i%m) L;rw[AY zo]at h5;have h6:=h2.CV (i%m) zo (by rw[u];exact L);have h7:=Mh Y (i/m) (i%m) (by rw[BC];exact hq) L;rw[J,AY w,FG,AY (by rw[u];exact L)]at h7;have h8:=EY h7;refine⟨_,?_,h2.one _ (BT _),by rw[h8];exact h6⟩;rw[<- h5,Addr.add_lit,Addr.add_lit,GM,J]
 have:=AI.slice (X:=Uv W) .any ab m (l.map f) b q E (λi=>(W.cell? ⟨b,q+i,ah⟩).getD undef) (by rw[BC,H];exact hl) zS Y
  (λi w=>by have⟨y,c,h2,_⟩:=k i w;refine⟨by show(W.cell? ⟨b,q+i,ah⟩).isSome=ad;rw[c];rfl,AJ,?_,by simp only[c,WO];exact h2⟩;show W.cell? ⟨b,q+i,ah⟩=_;rw[c];rfl)
  (λi w=>by have⟨y,c,_,F⟩:=k i w;simp only[c,WO];exact F)
 rw[BC,H]at this;exact this
abbrev TV:=@ReadsB.slice
