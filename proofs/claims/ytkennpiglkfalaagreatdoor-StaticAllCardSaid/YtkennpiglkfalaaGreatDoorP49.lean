/- A part. No condition. -/
import Derived.Test.YtkennpiglkfalaaGreatDoorP48
set_option linter.all false
open List renaming length->aa
open Bool renaming false->ab,true->ad
open Option renaming some->ae
open Go.Proofs.Tryz renaming prog->ai
open Go.Proofs.Tryz
namespace Go.Hs
open Go.Proofs
set_option maxHeartbeats 8000000
set_option maxRecDepth 10000
def MY(a b c a' b' c':Int):Bool:=decide (a=a'/\b=b'/\c=c')
def ZC(a b c g f e):OB [.int .u8 a,.int .u8 b,.int .u8 c] [.int .u8 g,.int .u8 f,.int .u8 e]=ae (MY a b c g f e):=by unfold MY;simp only[OB,RX,EN];by_cases d:a=g;by_cases h2:b=f;by_cases h:c=e;simp[d,h2,h];have:(c==e)=ab:=zu h;simp[d,h2,h,this];have:(b==f)=ab:=zu h2;simp[d,this,h2];have:(a==g)=ab:=zu d;simp[this,d]
def knC(v:V):List V:=ruleC++[v]
def F9(v):(knC v).length=93:=by rw[knC,BQ]<;>rfl
def qy(v):(knC v)[92]?=ae v:=by rw[knC,JS zd]<;>rfl
def Df:aa ruleC=92:=rfl
def wX(v):(knC v).take 92=ruleC:=by rw[knC,NR (BO 92)]<;>rfl
def y6(f):ruleC.map (V.recol f)=ruleC:=rfl
def qP(f v):(knC v).map (V.recol f)=knC (v.recol f):=by rw[knC,DL,y6]<;>rfl
def z_(G)(U:Yy G)(c1 S names)(hnl:names.l.length<1000000)(n ks)(hn:TU ks.l.length n)(hkl:ks.l.length<1000000)(hks:∀ y∈ks.l,y=1\/y=2):Spec () G 254 [.agg (knC (Za c1 1 V.AB names)),Y9 n,Za S 1 (V.int .u8) ks] Zm (V.int .u8 (Ss names.l n ks.l)):=by
 refine Zo 0 71 _ func254 λX=>?_;have t:Ss _ n _=kd n.op (names.l.contains n.name) (Mu ks.l n.a) (Mu ks.l n.b) (Mu ks.l n.c):=rfl;generalize Ss names.l n ks.l=B at t⊢;simp only[X7];refine Zk λK k=>CA zk ?_;refine Xc @F9 ?_;intro g3 g4 g5;refine k _ ?_
 try clear k K
 refine Yt (fun(_:Unit)=>st [(3,.ptr 3 g3 0),(4,.ptr 4 g4 0),(5,.ptr 5 g5 0)] [(3,qC g3 0 (knC (Za c1 1 V.AB names))),(4,qC g4 0 [.int .u8 n.op,n.num,n.name,n.a,n.b,n.c]),(5,qC g5 0 [Za S 1 (V.int .u8) ks])])
  (λ_=>n.op=2->names.l.contains n.name=ad) (λK1 Q=>?_) ?_
 by_cases T:n.op=2
 .have e1:(n.op==2)=ad:=zu T;refine Zk λK k=>CA zk ?_;refine Xc (zi e1 @qy) ?_;refine Zc U ?_ (s:=(Tx G U _ n.name names hnl));refine k _ ?_
  try clear k K
  cases hc:names.l.contains n.name;refine Zi rfl (λR=>?_) (λR=>?_)
  .refine Zk λK k=>CA zk ?_;refine Zs ?_;refine k _ ?_
   try clear k K
   refine Z ?_;rw[t,hc,T]<;>rfl
  cases R;refine Z0 ?_;exact Q _ () (λ_=>hc) qs
 .have e1:(n.op==2)=ab:=zu T;refine Zk λK k=>CA zk ?_;refine Xc e1 ?_;refine k _ ?_
  try clear k K
  refine Z0 ?_;exact Q _ () (λh=>absurd h T) qs
 rintro _ hnm;refine Zk λK k=>CA zk ?_;refine Zs ?_;refine k _ ?_
 try clear k K
 refine BM (Z4 (λo=>o==3||o==4||o==5) (l:=[(3,qW (.agg (knC (Za c1 1 V.AB names)))),(4,qW (.agg [.int .u8 n.op,n.num,n.name,n.a,n.b,n.c])),(7,.func (.func 274) [] [qW (Za S 1 (V.int .u8) ks)])]) (m:=[]) ?_ trivial) ?_;refine Zs ?_;refine⟨?_,?_,?_⟩;exact CS (v:=.agg (knC (Za c1 1 V.AB names))) rfl zp;exact CS (v:=.agg [.int .u8 n.op,n.num,n.name,n.a,n.b,n.c]) rfl zp;exact Fz.func ⟨CS (v:=Za S 1 (V.int .u8) ks) rfl zp,AJ⟩;have W:∀ i:Int,(i<0\/0<=i/\i<aa ks.l)->J3 ai G 274 [i,qW (Za S 1 (V.int .u8) ks)] (.int .u8 (Mu ks.l i)):=λi h=>⟨zk,by refine Zs ?_;refine(mg G U _ ks hkl i h).mono ?_;rintro _ _ rfl;rfl⟩
 have⟨hw,O,M,J,P,N,L⟩:=hn;have hra:n.a<0\/0<=n.a/\n.a<aa ks.l:=by by_cases h:0<Z7 n.op;exact .inr (O h);exact .inl (by rw[P h];decide)
 have hrb:n.b<0\/0<=n.b/\n.b<aa ks.l:=by by_cases h:1<Z7 n.op;exact .inr (M h);exact .inl (by rw[N h];decide)
 have hrc:n.c<0\/0<=n.c/\n.c<aa ks.l:=by by_cases h:2<Z7 n.op;exact .inr (J h);exact .inl (by rw[L h];decide)
 have hor:=Oa hw;obtain⟨r,f⟩:∃ r:Nat,n.op=r:=⟨n.op.toNat,zo⟩;have H:r<23:=zo;have F:n.op<23:=zo;have I:0<=n.op:=zo;have E:n.op.toNat=r:=zo;have Y:=uv r H;have hrl:r*4+4<=92:=zo;refine Zk λK k=>Zv ⟨λi=>if i=8 then .int .u8 (Mu ks.l n.a)else if i=12 then .int .u8 (Mu ks.l n.b)else if i=16 then .int .u8 (Mu ks.l n.c)else .top,λi=>if i=1 then .CO else if i=4 then .CO else if i=7 then .CO else if i=11 then .CO else if i=15 then .CO else .pure⟩ zk U zk zk ?_;simp -implicitDefEqProofs only[go_sem,seval,wX,F9,show(92:Nat)<=93 from zd,Df,Y,F,I,E,hrl];refine⟨W _ hra,W _ hrb,W _ hrc,?_⟩;intro g8 g9;refine k _ ?_
 try clear k K
 have C:∀ i:Int,(0<=i/\i<aa ks.l)->Mu ks.l i=1\/Mu ks.l i=2:=by intro i hi;unfold Mu;rw[AA zo];obtain⟨m,rfl⟩:∃ m:Nat,i=m:=⟨i.toNat,zo⟩;rw[GZ,DK,AY zo];exact hks _ (BT _)
 have e:0<Z7 n.op->Mu ks.l n.a=1\/Mu ks.l n.a=2:=λh=>C _ (O h);have g:1<Z7 n.op->Mu ks.l n.b=1\/Mu ks.l n.b=2:=λh=>C _ (M h);have A:2<Z7 n.op->Mu ks.l n.c=1\/Mu ks.l n.c=2:=λh=>C _ (J h);have q:¬0<Z7 n.op->Mu ks.l n.a=0:=λh=>by rw[P h]<;>rfl
 have p:¬1<Z7 n.op->Mu ks.l n.b=0:=λh=>by rw[N h]<;>rfl
 have d:¬2<Z7 n.op->Mu ks.l n.c=0:=λh=>by rw[L h]<;>rfl
 generalize Mu ks.l n.a=a at t e q⊢;generalize Mu ks.l n.b=b at t g p⊢;generalize Mu ks.l n.c=c at t A d⊢;refine Zk λK k=>CA zk ?_;refine Zs ?_;refine k _ ?_
 try clear k K
 by_cases x:r=16\/r=17
 .have eA:OC r=3:=by rcases x with rfl|rfl<;>rfl
  have eB:RJ r=3:=by rcases x with rfl|rfl<;>rfl
  have eD:N' r=0:=by rcases x with rfl|rfl<;>rfl
  have eI:UE r=2:=by rcases x with rfl|rfl<;>rfl
  rw[eA,eB,eD,eI];have j:Z7 n.op=2:=by rw[f];rcases x with rfl|rfl<;>rfl
  rw[j]at e g d;replace e:=e zd;replace g:=g zd;replace d:=d zd;refine Zz ?_;refine Zk λK k=>CA zk ?_;refine Zs ?_;refine k _ ?_
  try clear k K
  refine Z1 ?_;refine Zz ?_;refine Zk λK k=>CA zk ?_;refine Zs ?_;refine k _ ?_
  try clear k K
  refine Z0 ?_;refine Zz ?_;refine Zk λK=>?_;intro k;refine Pq 3 zk rfl rfl ?_;refine Zs ?_;refine⟨_,J4 (.inr rfl) zk zk zk zp zp zk (ZC _ _ _ _ _ _),?_⟩;refine Zs ?_;refine k _ ?_
  try clear k K
  have u:B=if MY a b c b b 0=ad then 2 else 0:=by rw[t,f,d];rcases x with rfl|rfl<;>rcases e with rfl|rfl<;>rcases g with rfl|rfl<;>rfl
  generalize MY a b c b b 0=z at u⊢;cases z;refine Zi rfl (λw=>?_) (λw=>?_)
  .refine Zk λK k=>CA zk ?_;refine Zs ?_;refine k _ ?_
   try clear k K
   refine Z ?_;rw[u]<;>rfl
  cases w;refine Z0 ?_;refine Zk λK k=>CA zk ?_;refine Zs ?_;refine k _ ?_
  try clear k K
  refine Z ?_;rw[u]<;>rfl
 by_cases D:r=22
 .subst D;have eA:OC 22=2:=rfl;have eB:RJ 22=3:=rfl;have eD:N' 22=3:=rfl;have eI:UE 22=3:=rfl;rw[eA,eB,eD,eI];have j:Z7 n.op=3:=by rw[f]<;>rfl
  rw[j]at e g A;replace e:=e zd;replace g:=g zd;replace A:=A zd;refine Zz ?_;refine Zk λK k=>CA zk ?_;refine Zs ?_;refine k _ ?_
  try clear k K
  refine Z0 ?_;refine Zz ?_;refine Zk λK k=>CA zk ?_;refine Zs ?_;refine k _ ?_
  try clear k K
  refine Z1 ?_;refine Zz ?_;refine Zk λK=>?_;intro k;refine Pq 3 zk rfl rfl ?_;refine Zs ?_;refine⟨_,J4 (.inr rfl) zk zk zk zp zp zk (ZC _ _ _ _ _ _),?_⟩;refine Zs ?_;refine k _ ?_
  try clear k K
  have u:B=if MY a b c 2 b b=ad then b else 0:=by rw[t,f];rcases e with rfl|rfl<;>rcases g with rfl|rfl<;>rcases A with rfl|rfl<;>rfl
  generalize MY a b c 2 b b=z at u⊢;cases z;refine Zi rfl (λw=>?_) (λw=>?_)
  .refine Zk λK k=>CA zk ?_;refine Zs ?_;refine k _ ?_
   try clear k K
   refine Z ?_;rw[u]<;>rfl
  cases w;refine Z0 ?_;refine Zk λK k=>CA zk ?_;refine Zs ?_;refine k _ ?_
  try clear k K
  refine Z ?_;rw[u]<;>rfl
 have nA:(OC r==3)=ab:=by unfold OC;rw[AA x];split;rfl;split;rfl;rfl
 have nD:(N' r==3)=ab:=by unfold N';rw[AA D]<;>rfl
 refine Zz ?_;refine Zk λK k=>CA zk ?_;refine Xc nA ?_;refine k _ ?_
 try clear k K
 refine Z0 ?_;refine Zz ?_;refine Zk λK k=>CA zk ?_;refine Xc nD ?_;refine k _ ?_
 try clear k K
 refine Z0 ?_;refine Zz ?_;refine Zk λK=>?_;intro k;refine Pq 3 zk rfl rfl ?_;refine Zs ?_;refine⟨_,J4 (.inr rfl) zk zk zk zp zp zk (ZC _ _ _ _ _ _),?_⟩;refine Zs ?_;refine k _ ?_
 try clear k K
 have u:B=if MY a b c (OC r) (RJ r) (N' r)=ad then UE r else 0:=by
  have hcs:r=1\/r=2\/r=3\/r=4\/r=5\/r=6\/r=7\/r=8\/r=9\/r=10\/r=11\/r=12\/r=13\/r=14\/r=15\/r=18\/r=19\/r=20\/r=21:=zo;rcases hcs with rfl|rfl|rfl|rfl|rfl|rfl|rfl|rfl|rfl|rfl|rfl|rfl|rfl|rfl|rfl|rfl|rfl|rfl|rfl
  .have j:Z7 n.op=0:=by rw[f]<;>rfl
   rw[j]at e g q p d;rw[t,f,q zd,p zd,d zd]
   try rfl
  .have j:Z7 n.op=0:=by rw[f]<;>rfl
   rw[j]at e g q p d;rw[t,f,q zd,p zd,d zd];rw[hnm (by rw[f]<;>rfl)]
   try rfl
  .have j:Z7 n.op=0:=by rw[f]<;>rfl
   rw[j]at e g q p d;rw[t,f,q zd,p zd,d zd]
   try rfl
  .have j:Z7 n.op=0:=by rw[f]<;>rfl
   rw[j]at e g q p d;rw[t,f,q zd,p zd,d zd]
   try rfl
  have j:Z7 n.op=1:=by rw[f]<;>rfl
  rw[j]at e g q p d;rw[t,f,p zd,d zd];rcases e zd with rfl|rfl<;>rfl;have j:Z7 n.op=1:=by rw[f]<;>rfl
  rw[j]at e g q p d;rw[t,f,p zd,d zd];rcases e zd with rfl|rfl<;>rfl;have j:Z7 n.op=2:=by rw[f]<;>rfl
  rw[j]at e g q p d;rw[t,f,d zd];rcases e zd with rfl|rfl<;>rcases g zd with rfl|rfl<;>rfl;have j:Z7 n.op=2:=by rw[f]<;>rfl
  rw[j]at e g q p d;rw[t,f,d zd];rcases e zd with rfl|rfl<;>rcases g zd with rfl|rfl<;>rfl;have j:Z7 n.op=2:=by rw[f]<;>rfl
  rw[j]at e g q p d;rw[t,f,d zd];rcases e zd with rfl|rfl<;>rcases g zd with rfl|rfl<;>rfl;have j:Z7 n.op=2:=by rw[f]<;>rfl
  rw[j]at e g q p d;rw[t,f,d zd];rcases e zd with rfl|rfl<;>rcases g zd with rfl|rfl<;>rfl;have j:Z7 n.op=2:=by rw[f]<;>rfl
  rw[j]at e g q p d;rw[t,f,d zd];rcases e zd with rfl|rfl<;>rcases g zd with rfl|rfl<;>rfl;have j:Z7 n.op=2:=by rw[f]<;>rfl
  rw[j]at e g q p d;rw[t,f,d zd];rcases e zd with rfl|rfl<;>rcases g zd with rfl|rfl<;>rfl;have j:Z7 n.op=2:=by rw[f]<;>rfl
  rw[j]at e g q p d;rw[t,f,d zd];rcases e zd with rfl|rfl<;>rcases g zd with rfl|rfl<;>rfl;have j:Z7 n.op=2:=by rw[f]<;>rfl
  rw[j]at e g q p d;rw[t,f,d zd];rcases e zd with rfl|rfl<;>rcases g zd with rfl|rfl<;>rfl;have j:Z7 n.op=2:=by rw[f]<;>rfl
  rw[j]at e g q p d;rw[t,f,d zd];rcases e zd with rfl|rfl<;>rcases g zd with rfl|rfl<;>rfl;have j:Z7 n.op=2:=by rw[f]<;>rfl
  rw[j]at e g q p d;rw[t,f,d zd];rcases e zd with rfl|rfl<;>rcases g zd with rfl|rfl<;>rfl;have j:Z7 n.op=2:=by rw[f]<;>rfl
  rw[j]at e g q p d;rw[t,f,d zd];rcases e zd with rfl|rfl<;>rcases g zd with rfl|rfl<;>rfl;have j:Z7 n.op=2:=by rw[f]<;>rfl
  rw[j]at e g q p d;rw[t,f,d zd];rcases e zd with rfl|rfl<;>rcases g zd with rfl|rfl<;>rfl;have j:Z7 n.op=2:=by rw[f]<;>rfl
  rw[j]at e g q p d;rw[t,f,d zd];rcases e zd with rfl|rfl<;>rcases g zd with rfl|rfl<;>rfl
 generalize MY a b c (OC r) (RJ r) (N' r)=z at u⊢;cases z;refine Zi rfl (λw=>?_) (λw=>?_)
 .refine Zk λK k=>CA zk ?_;refine Zs ?_;refine k _ ?_
  try clear k K
  refine Z ?_;rw[u]<;>rfl
 cases w;refine Z0 ?_;refine Zk λK k=>CA zk ?_;refine Zs ?_;refine k _ ?_
 try clear k K
 refine Z ?_;rw[u]<;>rfl
def Wq(names:List bS)(l:List XN):iS×Int×Int:=if Vp l≠0 then([],0,Vp l)else GO names l 0 []
def encKs(c:AH)(l:iS):V:=Za c 1 (V.int .u8) (Zb l)
def encKr(c:AH)(p:iS×Int×Int):V:=.tuple [encKs c p.1,qI p.2.1,qI p.2.2]
def sS{op nm a b c}(d:b=0\/b=1\/b=2)(h:kd op nm a b c≠0):kd op nm a b c=1\/kd op nm a b c=2:=by have:=Jn (op:=op) (nm:=nm) (a:=a) (c:=c) (b:=b) zo;omega
def mc{ks}(h:∀ y∈ks,y=1\/y=2)(i):Mu ks i=0\/Mu ks i=1\/Mu ks i=2:=by
 unfold Mu;split;exact .inl rfl
 .rw[DK];rcases a:ks[i.toNat]? with _|y;exact .inl rfl;exact .inr (h y (DY a))
def zP{names}{l:List XN}{k n}(h:l[k]?=ae n)(ks):GO names (l.drop k) k ks=if Ss names n ks=0 then([],(k:Int),90)else GO names (l.drop (k+1)) (k+1:Nat) (ks++[Ss names n ks]):=by have⟨a,h2⟩:=DG.1 h;rw[FL a,h2]<;>rfl
def Im.knC{v}(h:v.Im):(V.agg (knC v)).Im:=by
 refine .agg _ λx a=>?_;rcases DX.1 a with b|b;have:∀ l:List V,(l.all λv=>match v with|.int _ _=>ad|_=>ab)=ad->∀ x∈l,x.Im:=by intro l c x a;have:=ER.1 c x a;cases x<;>first|exact .int _ _|cases this
 exact this _ rfl x b;rw[CP.1 b];exact h
def Im.xn(n):(Y9 n).Im:=by refine .agg _ λx a=>?_;simp only[BY,CL,CF]at a;rcases a with rfl|rfl|rfl|rfl|rfl|rfl<;>first|exact .int _ _|exact .AB _
def vC(c s):(Za c 1 V.AB s).Im:=V1 (λx y a=>by simp[V.cells]at a;subst a;exact .AB _) s
def oo(x)(d:x.cells=[x])(e:x.solid=ad):S3 ai 303 [(0,.agg ruleC),(1,x)]=ae (.agg (knC x)):=by
 rw[jG (tbl:=[(0,92),(92,1)]) (z:=List.replicate 92 (.int .u8 0)++[.AG]) zk zk];have g:Hs.setAt (List.replicate 92 (.int .u8 0)++[.AG]) 0 ruleC=ruleC++[.AG]:=by rw[YL _ _ _ zd]<;>rfl
 have f:Hs.setAt (ruleC++[.AG]) 92 [x]=knC x:=by show(ruleC++[V.AG]).set 92 x=ruleC++[x];rw[List.set_append_right _ _ zd]<;>rfl
 have c:aa (List.replicate 92 (V.int .u8 0)++[V.AG])=93:=rfl;have b:aa (ruleC++[V.AG])=93:=rfl;have h:(V.agg ruleC).cells=ruleC:=rfl;have a:(V.agg ruleC).solid=ad:=rfl;have t0:LV [(0,92),(92,1)] 0=ae (0,92):=rfl;have t1:LV [(0,92),(92,1)] 1=ae (92,1):=rfl;simp only[Uo,t0,t1,h,a,d,e,c,Df,g,b,f,JI,KE,EE];rfl
def ABO{α}(c m f)(s:Sl α):(Za c m f s).solid=ad:=by cases s<;>rfl
def l3{α}(c m f)(s:Sl α):(Za c m f s).cells=[Za c m f s]:=by cases s<;>rfl
def yD(l v)(h:l.length=93):Hs.setAt l 0 (knC v)=knC v:=eT (by rw[h,F9])
def Jv(x):(V.int .u8 x).cells.length=1:=rfl
def sJ(G)(P:CR G)(c c1 s names)(S:s.l.length<1000000)(L:∀ n∈s.l,n.name.length<100000)(M:names.l.length<1000000):Spec () G 236 [.agg [Za c 6 Y9 s],Za c1 1 V.AB names] Zm (encKr .new (Wq names.l s.l)):=by
 have E:=P.ok;refine Zo 0 40 _ func236 λX=>?_;have D:Wq _ s.l=if Vp s.l≠0 then([],0,Vp s.l)else GO names.l s.l 0 []:=rfl;generalize Wq names.l s.l=A at D⊢;refine Z1 ?_;intro R;refine Z1 ?_;refine Co @Yu E ?_ (s:=(Kq G P _ s S L));refine Z1 ?_;by_cases z:Vp s.l=0
 rotate_left;have I:(Vp s.l != 0)=ad:=zu z;rw[AF z]at D;refine Zi rfl (λi=>?_) (λi=>?_);refine Z ?_
 rw[D]<;>rfl;rw[I]at i;cases i;have I:=zu z;rw[AA (zu z)]at D;refine Zi rfl (λi=>?_) (λi=>?_);rw[I]at i;cases i;refine Z0 ?_;have C:Wg s.l≠0:=by intro h;rw[Vp,AF h]at z;cases z
 refine Z1 ?_;refine Zn E ?_ (s:=(rJ G E));have J:(V.agg ruleC).recol AH.bk=.agg ruleC:=rfl;have T:(V.agg ruleC).cells=ruleC:=rfl;simp -implicitDefEqProofs only[go_sem,seval,J,Df,oo (Za c1 1 V.AB names) (l3 ..) (ABO ..)];intro g7;refine Xc (zi @F9 @iL) ?_;rw[yD _ _ ?hl]
 case hl=>rfl
 refine Z1 ?_;refine BK ?_;refine Z8 [7,20,21] [7] (aa s.l) (λk (x:Nat×iS)=>[(4,AZ 37 x.1 1 x.2),(22,k)]) (λk x=>[(37,Z9 x.1 (V.int .u8) x.2)]) (λk x=>A=GO names.l (s.l.drop k) k x.2/\aa x.2=k/\∀ y∈x.2,y=1\/y=2) 0 (0,[]) qz ⟨D,rfl,λy w=>by cases w⟩ zp zp ?_;rintro k ⟨Q,d⟩ W ⟨p,q,j⟩ L3 O;replace p:A=GO names.l (s.l.drop k) k d:=p;replace q:aa d=k:=q;replace j:∀ y∈d,y=1\/y=2:=j;refine Z1 ?_;refine Zz ?_;refine Zi rfl (λu=>?_) (λu=>?_);have r:k<aa s.l:=zu u;have F:=AY r;generalize s.l[k]=n at F;rw[zP F]at p;have K:TU (aa d) n:=q ▸ tK C F;refine Ym (zi F @X7) ?_;intro Y;refine Ym @F9 ?_;rw[<- X7];refine EZ E [.agg (knC (Za c1.ent 1 V.AB names)),Y9 n,Za .old 1 (V.int .u8) (Zb d)] zk ⟨?_,?_,?_,AJ⟩ ?_;refine Xg (Im.knC (vC _ _)) ?_;show(V.agg (knC _)).recol _=_;rw[X9,qP];simp -implicitDefEqProofs only[go_sem,seval];exact Xg (Im.xn n) (N0 _ _);exact Ez (f':=V.int .u8) zp Jv (λx y w=>by simp[V.cells]at w;subst w;exact .int _ _) BE;refine(z_ G E _ _ names M n (Zb d) (by rw[Zl];exact K) (by rw[Zl];omega) (by rw[Zl];exact j)).mono ?_;rintro _ _ rfl;refine⟨.int _ _,?_⟩;rw[Zl];have t:=λh=>sS (op:=n.op) (nm:=names.l.contains n.name) (a:=Mu d n.a) (c:=Mu d n.c) (mc j n.b) h;have N:Ss names.l n d=kd n.op (names.l.contains n.name) (Mu d n.a) (Mu d n.b) (Mu d n.c):=rfl;rw[<- N]at t;generalize Ss names.l n d=v at p t⊢;refine Zs ?_;refine Z1 ?_;by_cases B:v=0;have H:(v==0)=ad:=zu B;rw[AF B]at p;refine Zi rfl (λe=>?_) (λe=>?_);refine Z ?_;rw[p]<;>rfl;rw[H]at e;cases e;have H:(v==0)=ab:=zu B;rw[AA B]at p;refine Zi rfl (λe=>?_) (λe=>?_);rw[H]at e;cases e;refine Z1 ?_;intro U;refine Yg (f:=V.int .u8) (l:=d) (l2:=[v]) Jv rfl rfl rfl zp (Z3 zo zO) λR=>?_;refine Zs ?_;refine Z1 ?_;refine O _ ⟨r,(R,d++[v]),⟨p,by rw[BQ,q]<;>rfl,?_⟩,AO zw zp⟩;intro y w;rcases DX.1 w with h|h;exact j y h;rw[CP.1 h];exact t B;have r:k=aa s.l:=by simp at u;omega
 refine Z0 ?_;rw[r,NN]at p;refine BM (Z4 (λo=>o==37) (l:=[(4,encKs .new d)]) (m:=[]) ?_ trivial) ?_;refine Zs ?_;exact Yp rfl rfl Jv;refine Z ?_;rw[p]<;>rfl
def cw{names}:∀ l i acc,(GO names l i acc).2.2=0->(GO names l i acc).1.length=acc.length+l.length
 |[],i,acc,_=>rfl|n::r,i,acc,h=>by rw[GO]at h⊢;split;rename_i a;rw[AF a]at h;cases h;rename_i a;rw[AA a]at h;have:=cw r _ _ h;rw[this];simp;omega
def dy{names l}(h:(Wq names l).2.2=0):(Wq names l).1.length=l.length/\0<l.length:=by
 unfold Wq at h⊢;by_cases a:Vp l=0
 .rw[AA (zu a)]at h⊢;refine⟨by have:=cw l 0 [] h;simpa using this,?_⟩;cases l;exact absurd a zd;simp
 rw[AF a]at h;exact absurd h a
def Si(names:List bS)(l:List XN):Int×Int×Int:=if(Wq names l).2.2≠0 then(0,(Wq names l).2.1,(Wq names l).2.2)else((Wq names l).1.getD (aa (Wq names l).1-1) 0,0,0)
def encO3(p:Int×Int×Int):V:=.tuple [.int .u8 p.1,qI p.2.1,qI p.2.2]
def dc(g c s):(Za c 1 (V.int .u8) s).recol g=Za (g c) 1 (V.int .u8) s:=Xz g c 1 BE s
def ff(G)(t:CR G)(c c1 s names)(x:s.l.length<1000000)(j:∀ n∈s.l,n.name.length<100000)(k:names.l.length<1000000):Spec () G 205 [.agg [Za c 6 Y9 s],Za c1 1 V.AB names] Zm (encO3 (Si names.l s.l)):=by
 have A:=t.ok;refine Zo 0 25 _ func205 λX=>?_;have b:Si _ _=if(Wq _ _).2.2≠0 then(0,(Wq _ _).2.1,(Wq _ _).2.2)else((Wq _ _).1.getD (aa (Wq names.l s.l).1-1) 0,0,0):=rfl;have g:=λc c1=>sJ G t c c1 s names x j k;have q:=dy (names:=names.l) (l:=s.l);generalize Si names.l s.l=u at b⊢;generalize Wq names.l s.l=p at b g q;have⟨d,i,e⟩:=p;simp only at b q;refine Z1 ?_;intro C;refine Z1 ?_;refine GW @Yu A ?_ (s:=(g _ _));refine Xc (j3 @encKr.eq_1 @encKs.eq_1 @dc) ?_;refine Z1 ?_;by_cases f:e=0
 rotate_left;have h:(e != 0)=ad:=zu f;rw[AF f]at b;refine Zi rfl (λa=>?_) (λa=>?_);refine Z ?_
 rw[b]<;>rfl;rw[h]at a;cases a;have h:=zu f;rw[AA (zu f)]at b;have⟨z,y⟩:=q f;refine Zi rfl (λa=>?_) (λa=>?_);rw[h]at a;cases a;refine Z0 ?_;obtain⟨m,B⟩:∃ m,aa d=m+1:=⟨aa d-1,zo⟩;have w:qN ((aa d:Int)-1)=(m:Int):=by rw[Xi zo zo];omega
 obtain⟨v,r⟩:∃ v,d[m]?=ae v:=⟨_,AY zo⟩;have o:d.getD (aa d-1) 0=v:=by rw[show aa d-1=m by omega,DK,r]<;>rfl
 rw[o]at b;refine Zf (zi w r) ?_;rw[b]<;>rfl
def KD:XN:=⟨3,0,[],-1,-1,-1⟩
def Sj(s:bS)(names:List bS):List XN×Int×Int:=
 if(Yr s).2.2=0/\aa (Yr s).1=0 then([KD],0,0)
 else if(V5 s).2.2≠0 then([],(V5 s).2.1,(V5 s).2.2)
 else if(Si names (V5 s).1).2.2≠0\/(Si names (V5 s).1).1≠2 then([],0,90)else((V5 s).1,0,0)
def fD{s}(f:s.length<100000):(V5 s).1.length<100000/\∀ n∈(V5 s).1,n.name.length<100000:=by
 have e:=J9 f;have c:=Nc e;have b:=((Vv (Yr s).1 (aa (Yr s).1+1) 1 ⟨0,[],0⟩).ok ⟨CB _,BO _⟩);have d:aa (Xt (Yr s).1).1<100000/\∀ n∈(Xt (Yr s).1).1,aa n.name<100000:=by unfold Xt;split;exact⟨H3 _,λn a=>by cases a⟩;split;exact⟨H3 _,λn a=>by cases a⟩;have:=b.1;have:=b.2;have:=e.len;exact⟨by show aa (Yv _ _ _ _).2.BS<_;omega,c⟩
 unfold V5;split;exact⟨H3 _,λn a=>by cases a⟩;split;exact⟨H3 _,λn a=>by cases a⟩;split;exact d;exact⟨H3 _,λn a=>by cases a⟩
def sa(G)(C:CR G)(c1)(s:bS)(names)(H:s.length<100000)(I:names.l.length<1000000):Spec () G 167 [s,Za c1 1 V.AB names] Zm (encFr .new (Sj s names.l)):=by
 have J:=C.ok;refine Zo 0 55 [.cell 4 196,.tmp 5,.tmp 6] func167 λX=>?_;have a:Sj s _=if(Yr s).2.2=0/\aa (Yr s).1=0 then([KD],0,0)
  else if(V5 s).2.2≠0 then([],(V5 s).2.1,(V5 s).2.2)
  else if(Si _ _).2.2≠0\/(Si names.l (V5 s).1).1≠2 then([],0,90)else((V5 s).1,0,0):=rfl
 generalize Sj s names.l=N at a⊢;have M:=Rz G C s H;have L:=vW G C s H;have P:=fD H;have w:=λc c1=>ff G C c c1 (Zb (V5 s).1) names (by rw[Zl];omega) (by rw[Zl];exact P.2) I;simp only[Zl]at w;generalize Yr s=t at a M;generalize V5 s=p at a L w;have⟨l,R,E⟩:=t;have⟨O,i,e⟩:=p;simp only at a w;generalize Si names.l O=o at a w;have⟨k,j,K⟩:=o;simp only at a;refine Z1 ?_;intro D;refine Yt (fun(_:Unit)=>st [(0,s),(1,Za c1 1 V.AB names),(4,.ptr 4 D 0)] [(4,qC D 0 [.AG])]) (λ_=>¬(E=0/\aa l=0)) (λS x=>?_) ?_
 .refine Z1 ?_;refine Zn J ?_ (s:=M);refine Xc (j3 @encTok.eq_1 @encTks.eq_1 @Xn) ?_;by_cases n:E=0
  rotate_left;have r:(E==0)=ab:=zu n;refine Ym r ?_;refine Z0 ?_;exact x _ () (λh=>n h.1) qs;have r:(E==0)=ad:=zu n
  by_cases u:aa l=0;rw[AF ⟨n,u⟩]at a;have q:(((aa l:Nat):Int)==0)=ad:=by simp[u]
  refine Ym (zi r q) ?_;refine Zi rfl (λy=>?_) (λy=>?_);refine Z1 ?_;intro z;refine BM (Z4 (λo=>o==27) (l:=[(4,.ptr 4 D 0),(5,qI 0),(6,qI 0)]) (m:=[(4,qC D 0 [encXs .new [KD]])]) ?_ ?_) ?_;refine Zs ?_
  first|exact⟨Zd,Zd,Zd⟩|exact⟨Zd,Zd⟩
  simp only[Z2,Z5,CE];exact D_ (cs:=[.A_ 27 z 0 1 6]) rfl zp ⟨Xm (f:=Y9) (l:=[KD]) rfl zp Rc,AJ⟩;refine Z ?_;rw[a]<;>rfl;cases y;have q:(((aa l:Nat):Int)==0)=ab:=wE;refine Ym (zi r q) ?_;refine Z0 ?_;exact x _ () (λh=>u h.2) qs
 rintro _ Q;rw[AA Q]at a;refine Z1 ?_;refine Zn J ?_ (s:=L);refine Xc (j3 @encFr.eq_1 @encXs.eq_1 @Yu) ?_;refine Z1 ?_;by_cases B:e=0
 rotate_left;have r:(e != 0)=ad:=zu B;rw[AF B]at a;refine Zi rfl (λb=>?_) (λb=>?_);refine Z ?_
 rw[a]<;>rfl;rw[r]at b;cases b;have r:(e != 0)=ab:=zu B;rw[AA (zu B)]at a;refine Zi rfl (λb=>?_) (λb=>?_);rw[r]at b;cases b;refine Z1 ?_;refine GW @Yu J ?_ (s:=(w _ _));refine Xc @encO3.eq_1 ?_;by_cases h2:K=0
 rotate_left;have q:(K != 0)=ad:=zu h2;rw[AF (.inl h2)]at a;refine Ym q ?_;refine Zi rfl (λd=>?_) (λd=>?_);refine Z ?_
 rw[a]<;>rfl;cases d;have q:(K != 0)=ab:=zu h2;by_cases A:k=2
 rotate_left;have F:(k != 2)=ad:=zu A;rw[AF (.inr A)]at a;refine Ym (zi q F) ?_;refine Zi rfl (λd=>?_) (λd=>?_);refine Z ?_
 rw[a]<;>rfl;cases d;have F:(k != 2)=ab:=zu A;rw[AA (by rintro(h|h);exact h h2;exact h A)]at a;refine Zf (zi q F) ?_;rw[a]<;>rfl
structure AM where
 AD:Int
 name:bS
 x:Sl XN
def AM.v(s:AM):EU:=⟨s.AD,s.name,s.x.l⟩
def U8(c:AH)(s:AM):V:=.agg [.int .u8 s.AD,s.name,Za c 6 Y9 s.x]
def U2(c s):U8 c s=.agg [.int .u8 s.AD,s.name,Za c 6 Y9 s.x]:=rfl
def XF(f c s):(U8 c s).recol f=U8 (f c) s:=by simp only[U2,X9,BI,BV,Xr,Ua,Yu]
@[go_sem] def Ie(g c c1 s):(Za c 3 (U8 c1) s).recol g=Za (g c) 3 (U8 (g c1)) s:=Xz g c 3 (XF g c1) s
def Sp(s:EU):Bool:=(s.AD==1||s.AD==2)&&Tc s.name==2&&((s.AD==2&&s.x.isEmpty)||Vp s.x==0)
def Th(l:List EU):Int:=if aa l>512 then 2 else if l.all Sp=ad then 0 else 2
structure VU(l:List AM):Prop where
 len:aa l<1000000
 row:∀ a∈l,aa a.name<100000/\aa a.x.l<1000000/\∀ n∈a.x.l,aa n.name<100000
def nu{l:List AM}{k a}(h:l[k]?=ae a)(b:(l.take k).all (λa=>Sp a.v)=ad)(h2:Sp a.v=ad):(l.take (k+1)).all (λa=>Sp a.v)=ad:=by rw[IZ,h,LF,b];simpa using h2
def sZ{l:List AM}{k:Nat}{a}(h:l[k]?=ae a)(h2:Sp a.v=ab):(l.map AM.v).all Sp=ab:=by rw[FV];intro b;rw[ER]at b;have:=b _ (TJ (DY h));rw[h2]at this;cases this
def rn(G)(n:Yy G)(c c1 s)(N:VU s.l):Spec () G 221 [Za c 3 (U8 c1) s] Zm (Th (s.l.map AM.v)):=by
 have T:=N.len;refine Zo 0 47 [.tmp 2] func221 λX=>?_;have r:Th (s.l.map AM.v)=if aa s.l>512 then 2 else if(s.l.map AM.v).all Sp=ad then 0 else 2:=by unfold Th;rw[BC]
 generalize Th _=Q at r⊢;refine Z1 ?_;refine Zz ?_;by_cases M:aa s.l>512;rw[AF M]at r;have F:=zU ((aa s.l:Int)>512);refine Zf F ?_;rw[r];rw[AA M]at r;have F:=zV ((aa s.l:Int)>512);refine Ym F ?_;refine Z1 ?_;refine BK ?_;refine Z8 [0] [] (aa s.l) (λk  _=>[(3,k)]) (λ_ _=>[]) (λk _=>(s.l.take k).all (λa=>Sp a.v)=ad) 0 () qz rfl zp zp ?_;intro k _ U I W J;refine Z1 ?_;refine Zi rfl (λt=>?_) (λt=>?_);rotate_left;have m:k=aa s.l:=by have:=zN t;omega
 refine Z0 ?_;rw[m,B_]at I;rw[AF (by rw[List.all_map];exact I)]at r;refine Z ?_;rw[r];have m:k<aa s.l:=zL t;have E:=AY m;obtain⟨R,L,K⟩:=N.row _ (BT m);generalize s.l[k]=a at E R L K;have g:=λh=>AA (c:=((s.l.map AM.v).all Sp=ad)) (by rw[sZ E h];decide) ▸ r;refine Z0 ?_;refine Yt (fun(_:Unit)=>st [(0,Za c 3 (U8 c1) s),(3,k)] []) (λ_=>Sp a.v=ad) (λK5 B=>?_) ?_;rotate_left;intro _ H;refine Z1 ?_;exact J _ ⟨m,(),nu E I H,AO zw zp⟩;refine Ym (zi E @U2) ?_;intro O;refine Yt (fun(_:Unit)=>st [(0,Za c 3 (U8 c1) s),(3,k),(4,.ptr 4 O 0)] [(4,qC O 0 [.int .u8 a.AD,a.name,Za c1 6 Y9 a.x])]) (λ_=>(a.AD=1\/a.AD=2)/\Tc a.name=2) (λK6 A=>?_) ?_
 .by_cases d:a.AD=1\/a.AD=2
  rotate_left
  have e:(a.AD==1)=ab:=by rw[FD];exact λh=>d (.inl h)
  have o:(a.AD==2)=ab:=by rw[FD];exact λh=>d (.inr h)
  refine Wo zk ?_;simp -implicitDefEqProofs only[go_sem,seval,bne,e,o];refine Z ?_;rw[g (by unfold Sp AM.v;rw[show((a.AD==1)=ab)from e,show((a.AD==2)=ab)from o]<;>rfl)];by_cases y:Tc a.name=2
  rotate_left
  have u:((Tc a.name:Int)==2)=ab:=wE;have D:(Tc a.name==2)=ab:=zu y;rcases d with i|i;have e:(a.AD==1)=ad:=zu i;refine Wo zk ?_;simp -implicitDefEqProofs only[go_sem,seval,bne,e];refine Zn n ?_ (s:=(Of G n a.name zo));simp -implicitDefEqProofs only[go_sem,seval,bne,u];refine Z ?_;rw[g (by unfold Sp AM.v;simp only[D,EX,EG])];have e:(a.AD==1)=ab:=wE;have o:(a.AD==2)=ad:=zu i;refine Wo zk ?_;simp -implicitDefEqProofs only[go_sem,seval,bne,e,o];refine Zn n ?_ (s:=(Of G n a.name zo));simp -implicitDefEqProofs only[go_sem,seval,bne,u];refine Z ?_;rw[g (by unfold Sp AM.v;simp only[D,EX,EG])];have u:((Tc a.name:Int)==2)=ad:=by rw[CX];omega
  rcases d with i|i;have e:(a.AD==1)=ad:=zu i;refine Wo zk ?_;simp -implicitDefEqProofs only[go_sem,seval,bne,e];refine Zn n ?_ (s:=(Of G n a.name zo));simp -implicitDefEqProofs only[go_sem,seval,bne,u];refine Z0 ?_;exact A _ () ⟨.inl i,y⟩ qs;have e:(a.AD==1)=ab:=wE;have o:(a.AD==2)=ad:=zu i;refine Wo zk ?_;simp -implicitDefEqProofs only[go_sem,seval,bne,e,o];refine Zn n ?_ (s:=(Of G n a.name zo));simp -implicitDefEqProofs only[go_sem,seval,bne,u];refine Z0 ?_;exact A _ () ⟨.inr i,y⟩ qs
 rintro _ ⟨d,y⟩;have D:(Tc a.name==2)=ad:=zu y;have S:(a.AD==1||a.AD==2)=ad:=zu d;have w:Sp a.v=((a.AD==2&&a.x.l.isEmpty)||Vp a.x.l==0):=by unfold Sp AM.v;simp only[D,S,DJ]
 by_cases f:a.AD=2/\aa a.x.l=0;have e:(a.AD==1)=ab:=wE;have o:(a.AD==2)=ad:=zu f.1;have C:=zV ((aa a.x.l:Int)>0);refine Ym (zi e C) ?_;refine Z0 ?_;exact B _ () (by rw[w,o,cL.2 f.2]<;>rfl) qs;have j:Sp a.v=(Vp a.x.l==0):=by
  rw[w];have:(a.AD==2&&a.x.l.isEmpty)=ab:=by rw[FV];intro h;rw[BP]at h;exact f ⟨zu h.1,cL.1 h.2⟩
  rw[this,CH]
 have q:=λc=>Bb G n c a.x L K;generalize Vp a.x.l=P at j q;refine Yt (fun(b:Bool)=>st [(0,Za c 3 (U8 c1) s),(3,k),(46,b)] []) (λb=>b = !(P==0)) (λK7 z=>?_) ?_;refine CA zk ?_;by_cases i:a.AD=1;have e:(a.AD==1)=ad:=zu i;simp -implicitDefEqProofs only[go_sem,seval,e,bne];refine GW @Yu n ?_ (s:=(q _));simp -implicitDefEqProofs only[go_sem,seval,e,bne];exact z _ _ rfl qs;have e:(a.AD==1)=ab:=zu i;have C:=zU ((aa a.x.l:Int)>0);simp -implicitDefEqProofs only[go_sem,seval,e,C,bne];refine GW @Yu n ?_ (s:=(q _));simp -implicitDefEqProofs only[go_sem,seval,e,C,bne];exact z _ _ rfl qs;rintro b rfl;cases p:(P==0);refine Z ?_;rw[g (by rw[j,p])];refine Z0 ?_;exact B _ () (by rw[j,p]) qs
def qB(G)(i:CR G)(c a)(u:a.name.length<100000)(r:a.x.l.length<1000000)(q:∀ n∈a.x.l,n.name.length<100000):Spec () G 260 [U8 c a] Zm (Sp a.v):=by
 have k:=i.ok;refine Zo 0 37 _ func260 λX=>?_;have b:Sp a.v=((a.AD==1||a.AD==2)&&Tc a.name==2&&((a.AD==2&&a.x.l.isEmpty)||Vp _==0)):=rfl;generalize Sp _=m at b⊢;have p:a.x.l.isEmpty=((aa a.x.l:Int)==0):=by rw[FW,cL,CX];omega
 have o:(Tc a.name==2)=((Tc a.name:Int)==2):=by rw[FW,CX,CX];omega
 rw[p,o]at b;simp only[U2];refine Z1 ?_;intro t;refine Yt (fun(_:Unit)=>st [(1,.ptr 1 t 0),(3,.bool (a.AD==2&&((aa a.x.l:Int)==0)))] [(1,qC t 0 [.int .u8 a.AD,a.name,Za c 6 Y9 a.x])]) (λ_=>True) (λy h=>?_) ?_
 .refine CA zk ?_;cases d:(a.AD==2);rw[d]at h;refine Xc d ?_;exact h _ () trivial qs;rw[d]at h;refine Xc d ?_;exact h _ () trivial qs
 intro _ _;refine Yt (fun(_:Unit)=>st [(2,m)] []) (λ_=>True) (λw e=>?_) ?_;rotate_left;intro _ _;exact Zr;refine CA zk ?_;cases g:(a.AD==1)with
 |true=>
  have d:(a.AD==2)=ab:=by rw[CX]at g;rw[FD,g];decide
  rw[d];refine Xc g ?_;refine Zn k ?_ (s:=(Pb G i a.name zo));cases f:((Tc a.name:Int)==2);refine Xc f ?_;refine e _ () trivial (AO (by rw[b,g,d,f];simp -implicitDefEqProofs only[go_sem,seval];try rfl) zp);refine Xc f ?_;refine Co @Yu k ?_ (s:=(Kq G i _ a.x r q));refine e _ () trivial (AO (by rw[b,g,d,f];simp -implicitDefEqProofs only[go_sem,seval];try rfl) zp)
 |false=>
 cases d:(a.AD==2)with|false=>refine Xc (zi g d) ?_;refine e _ () trivial (AO (by rw[b,g,d];simp -implicitDefEqProofs only[go_sem,seval];try rfl) zp)|true=>
 refine Xc (zi g d) ?_;refine Zn k ?_ (s:=(Pb G i a.name zo));cases f:((Tc a.name:Int)==2)with|false=>refine Xc f ?_;refine e _ () trivial (AO (by rw[b,g,d,f];simp -implicitDefEqProofs only[go_sem,seval];try rfl) zp)|true=>
 cases j:((aa a.x.l:Int)==0);refine Xc (zi f j) ?_;refine Co @Yu k ?_ (s:=(Kq G i _ a.x r q));refine e _ () trivial (AO (by rw[b,g,d,f,j];simp -implicitDefEqProofs only[go_sem,seval];try rfl) zp);refine Xc (zi f j) ?_;refine e _ () trivial (AO (by rw[b,g,d,f,j];simp -implicitDefEqProofs only[go_sem,seval];try rfl) zp)
structure ON(a:AM):Prop where
 n:aa a.name<100000
 l:aa a.x.l<1000000
 x:∀ n∈a.x.l,aa n.name<100000
def ra(G)(d:CR G)(c a)(b:ON a):Spec () G 259 [U8 c a] Zm (λv _=>v=.bool (!Sp a.v)):=by have e:=d.ok;refine Zo 0 6 _ func259 λX=>?_;simp only[U2];refine Z1 ?_;intro f;refine Z1 ?_;refine GS e zk ?_;simp only[BI,BV,<- U2,XF];refine(qB G d _ a b.n b.l b.x).mono ?_;rintro _ _ rfl;refine Zs ?_;exact Zr
def rM(G)(j:CR G)(c c1 s)(o:s.l.length<1000000)(m:∀ a∈s.l,ON a):Spec () G 278 [Za c 3 (U8 c1) s,.func (.func 259) [] []] Zm (λv _=>v=qI (Oy (λa:AM => !Sp a.v) s.l)):=by
 have n:=j.ok;refine Zo 0 19 [.tmp 4] func278 λX=>?_;refine Z1 ?_;refine Z1 ?_;refine BK ?_;refine Z8 [0,1,7] [] (aa s.l) (λk  _=>[(8,k)]) (λ_ _=>[]) (λk _=>∀ y∈s.l.take k,(!Sp y.v)=ab) 0 () qz zS zp zp ?_;intro k _ q f r g;refine Z1 ?_;refine Zz ?_;refine Zi rfl (λi=>?_) (λi=>?_);have b:=zu i;have e:=AY b;have d:=m _ (BT b);generalize s.l[k]=x at e d;refine Z1 ?_;refine Ym (zi e @U2) ?_;refine GS n zk ?_;simp only[BI,BV,<- U2,XF];refine(ra G j _ x d).mono ?_;rintro _ _ rfl;refine Zs ?_;refine Zi rfl (λh=>?_) (λh=>?_);refine Z ?_;rw[Td e f h];refine Z1 ?_;refine g _ ⟨b,(),V3 e f h,AO zw zp⟩;have b:k=aa s.l:=by simp at i;omega
 refine Z ?_;rw[b,B_]at f;rw[Te f]
def pH{α}(p)(l:List α):decide (Oy p l>=0)=l.any p:=by
 unfold Oy;rcases h:l.findIdx? p with _|i;rw[WC]at h;have:l.any p=ab:=by rw[JF];intro x a;simp[h x a]
 rw[this]<;>rfl;have:l.any p=ad:=by rw[FX];have⟨c,b,_⟩:=OS.1 h;exact⟨_,BT c,b⟩
 rw[this,OH];exact DS _
def tH(G)(b:CR G)(c c1 s)(d:s.l.length<1000000)(e:∀ a∈s.l,ON a):Spec () G 258 [Za c 3 (U8 c1) s,.func (.func 259) [] []] Zm (λv _=>v=.bool (s.l.any (λa:AM => !Sp a.v))):=by have f:=b.ok;refine Zo 0 9 [.tmp 4] func258 λX=>?_;refine Z1 ?_;refine Z1 ?_;refine Co @Ie f ?_ (s:=(rM G b _ _ s d e));refine Z ?_;rw[pH]
def AAy(G)(h:CR G)(c c1 s)(j:s.l.length<1000000)(k:∀ a∈s.l,ON a):Spec () G 240 [.agg [Za c 3 (U8 c1) s]] Zm (Th (s.l.map AM.v)):=by
 have m:=h.ok;refine Zo 0 12 [.tmp 2] func240 λX=>?_;have b:Th (s.l.map AM.v)=if aa s.l>512 then 2 else if(s.l.map AM.v).all Sp=ad then 0 else 2:=by unfold Th;rw[BC]
 generalize Th _=i at b⊢;have e:s.l.any (λa:AM => !Sp a.v) = !(s.l.map AM.v).all Sp:=by rw[List.all_map,List.not_all_eq_any_not]<;>rfl
 refine Z1 ?_;intro n;refine Zz ?_;by_cases g:aa s.l>512;rw[AF g]at b;have f:=zU ((aa s.l:Int)>512);refine Zf f ?_;rw[b];rw[AA g]at b;have f:=zV ((aa s.l:Int)>512);refine Ym f ?_;refine GW @Ie m ?_ (s:=(tH G h _ _ s j k));refine Xc f ?_;rw[e];cases d:(s.l.map _).all Sp;rw[AA (by rw[d];decide)]at b;refine Z ?_;rw[b];rw[AF d]at b;refine Z ?_;rw[b]
def kM{N M}(h:∀ t,N.contains t=M.contains t):∀ l i acc,GO N l i acc=GO M l i acc
 |[],_,_=>rfl|n::r,i,acc=>by
  have:Ss N n acc=Ss M n acc:=by unfold Ss;rw[h]
  rw[GO,GO,this];split;rfl;exact kM h r _ _
def wK{N M}(h:∀ t,N.contains t=M.contains t)(l):Si N l=Si M l:=by
 have:Wq N l=Wq M l:=by unfold Wq;split;rfl;exact kM h _ _ _
 unfold Si;rw[this]
def AAn(a l)(t:bS):([a]++l).contains t=(l++[a]).contains t:=by rw[FW];simp only[NL,CM,DX,CP];exact or_comm
def Pm:bS:=[97,114,103]
def Na(names:List bS)(x:List XN):Bool:=x.isEmpty||(Si names x).1==1
def VN(vars BF:List bS)(s:EU):Bool:=(if s.AD=2 then BF.contains s.name else vars.contains s.name)&&Na (vars++[Pm]) s.x
def Ni(vars BF:List bS):List EU->Int->Int×Int
 |[],_=>(0,0)|s::r,i=>if VN vars BF s=ad then Ni vars BF r (i+1)else(i,90)
def M1(b:List EU)(vars BF:List bS):Int×Int:=if Th b≠0 then(0,2)else Ni vars BF b 0
def Cy{c a}{b:List EU}{k s}(h:b[k]?=ae s):Ni c a (b.drop k) k=if VN c a s=ad then Ni c a (b.drop (k+1)) (k+1:Nat)else((k:Int),90):=by have⟨e,d⟩:=DG.1 h;rw[FL e,d,Ni]<;>rfl
def Ph(c s):(R5 c s).cells.length=3:=rfl
def UT(c:AH)(l:List EU):V:=Za c 3 (R5 c) (Zb l)
def fu(r:List EU×Int×Int):V:=.tuple [UT .new r.1,qI r.2.1,qI r.2.2]
def Xb{l}{n i:Nat}{t}(h:l[i]?=ae t):Hx l n (i:Int)=t.pos:=by
 have a:i<aa l:=by refine MC λh2=>?_;rw[OT zo]at h;cases h
 unfold Hx;rw[AF zo,GZ,DK,h]<;>rfl
def qj(G)(y:Yy G)(s:bS)(O:s.length<100000):Spec () G 195 [s] Zm (fu (Nd s)):=by
 refine Zo 0 63 _ func195 λX=>?_;have r:Nd s=if(Yr s).2.2≠0 then(([]:List _),(Yr s).2.1,(Yr s).2.2)else Mn (Yr s).1 (aa s) (aa (Yr s).1+1) 0 []:=rfl;generalize Nd s=E at r⊢;have D:=J9 O;have P:=Rq G y s O;generalize Yr s=p at r D P;obtain⟨l,at0,N⟩:=p;simp only at r D;have Y:=D.len;refine Z1 ?_;refine Z1 ?_;refine Zn y ?_ (s:=P);refine Xc (j3 @encTok.eq_1 @encTks.eq_1 @Xn) ?_;have R:=Zl l;generalize Zb l=S at R;subst R;refine Zz ?_;by_cases C:N=0
 rotate_left;rw[AF C]at r;have I:(N==0)=ab:=zu C;refine Wo zk ?_;simp -implicitDefEqProofs only[go_sem,seval,bne,I];refine Z ?_
 rw[r]<;>rfl;rw[AA (zu C)]at r;have I:=zu C;refine Wo zk ?_;simp -implicitDefEqProofs only[go_sem,seval,bne,I];refine Z1 ?_;refine Z1 ?_;refine Zz ?_;refine BK ?_;refine Xw [0,5] [] (fun(x:(Nat×Nat)×List EU)=>[(8,AZ 60 x.1.1 3 x.2),(9,qI x.1.2)]) (λx=>[(60,Z9 x.1.1 (R5 .new) x.2)]) (λx=>x.1.2<=aa S.l/\aa x.2<=512/\∃ f,aa S.l<f+x.1.2/\Mn S.l (aa s) f x.1.2 x.2=E) (λx=>aa S.l-x.1.2) ((0,0),[]) ⟨CB _,CB _,aa S.l+1,GH _,r.symm⟩ zp zp ?_;rintro⟨⟨gx,i⟩,d⟩ ⟨U,L,f,W,b⟩ L3 M;simp only at U L W b;refine Zz ?_;cases f with|zero=>omega|succ f=>
 rw[Mn]at b;refine Z1 ?_;refine Zi rfl (λw=>?_) (λw=>?_);rotate_left;have j:aa S.l<=i:=by have:=zN w;omega
 rw[AF j]at b;refine Z0 ?_;refine BM (Z4 (λo=>o==60) (l:=[(8,Za .new 3 (R5 .new) (Zb d))]) (m:=[]) ?_ trivial) ?_;refine Zs ?_;exact Yp rfl zp (Ph _);refine Z ?_;rw[<- b]<;>rfl;have j:i<aa S.l:=zL w;rw[AA zo]at b;have K:=AY j;refine Z0 ?_;refine BK ?_;refine Zz ?_;by_cases T:aa d=512;rw[AF T]at b;generalize S.l[i]=t at K;rw[Xb K]at b;have H:((aa d:Int)==512)=ad:=by rw[CX];omega
 refine Ym H ?_;refine W7 rfl ?_;refine Pr (zi K @Wd) y ?_;refine Z ?_;rw[<- b]<;>rfl;rw[AA T]at b;have H:((aa d:Int)==512)=ab:=wE;refine Ym H ?_;refine Z0 ?_;have z:=λc=>wM G y c S D i zo;have Q:=G9 S.l i;generalize Ud S.l i=q at b z Q;obtain⟨x,n,e⟩:=q;obtain⟨J,A⟩:=Q;simp only at J A b;obtain⟨m,rfl⟩:=Int.eq_ofNat_of_zero_le (a:=n) zo;refine Z1 ?_;refine GW @Xn y ?_ (s:=(z _));refine Xc (j3 @encSR.eq_1 @Lt @Yu) ?_;intro g10;refine Zz ?_;by_cases h:e=0
 rotate_left;rw[AF h]at b;have F:(e==0)=ab:=zu h;refine Wo zk ?_;simp -implicitDefEqProofs only[go_sem,seval,bne,F];refine Z1 ?_;refine Zi rfl (λu=>?_) (λu=>?_);have B:m<aa S.l:=zL u;have k:=AY B;generalize S.l[m]=t at k;rw[Xb k]at b;refine Pr (zi k @Wd) y ?_;refine Z ?_
 rw[<- b]<;>rfl;have B:¬m<aa S.l:=by have:=zN u;omega
 refine Z ?_;rw[<- b];unfold Hx;rw[AA (by show ¬((m:Int)<aa S.l);omega)]<;>rfl;rw[AA (zu h)]at b;have F:(e==0)=ad:=zu h;obtain⟨h6,h7⟩:=A h;refine Wo zk ?_;simp -implicitDefEqProofs only[go_sem,seval,bne,F];refine Z1 ?_;intro g59;refine Yg (f:=R5 .new) (l:=d) (l2:=[x]) (Ph _) rfl rfl rfl zp (Z3 zo zO) λg2=>?_;refine Zs ?_;refine Z1 ?_;refine M _ ⟨((g2,m),d++[x]),?_,⟨?_,?_,f,?_,b⟩,AO zp zp⟩;show aa S.l-m<aa S.l-i;omega;show m<=_;omega;show aa (d++[x])<=_;rw[BQ];show aa d+1<=_;omega;show aa S.l<f+m;omega
structure CU where
 i:Nat
 e:Int
def GB(sl:Sl Tk)(g:Nat)(st:V)(r:CU):BL:=.cells .any g 0 [Za .any 3 Xy sl,r.i,r.e,st]
def Pi(a g st r):GB a g st r=.cells .any g 0 [Za .any 3 Xy a,r.i,r.e,st]:=rfl
def CuS(G:Nat->V)(f:FuncId)(args:List V)(sl:Sl Tk)(g:Nat)(r:CU)(v:V)(r':CU):Prop:=
 ∀ st,(∀ F,st.recol F=st)->Spec () G f (.ptr 21 g 0::args) (Yb Zm [(21,GB sl g st r)]) (λa b=>a=v/\b 21=GB sl g st r')
def CuS.call{G}(q:Yy G){f a args' c g r r' v st}(h:CuS G f args' c g r v r'){H:A'}{K}(d:∀ F,st.recol F=st)(e:Yf ai f=ad)(b:a.map (V.recol AH.ent)=args'){i}(m:v.recol AH.bk=i)(t:H 21=GB c g st r)(n:K i (Yb H [(21,GB c g st r')])):CallA ai G f (.ptr 21 g 0::a) H K:=by
 have k:∀ (F) r,F .any=.any->(GB c g st r).recol F=GB c g st r:=by intro F r s;simp only[Pi,bM,BI,BV,Xn,Xr,s,d]
 refine CallA.hand q [(21,GB c g st r)] e ?_ ?_;intro p j;rw[CP]at j;subst j;rw[t,k _ _ rfl];have o:(V.ptr 21 g 0::a).map (V.recol AH.ent)=.ptr 21 g 0::args':=by rw[BI,Ic,b]
 rw[o];refine(h st d).mono ?_;rintro _ u ⟨rfl,l⟩;simp only[BI,BV,l,k _ _ UC,m];exact n
abbrev IH:=@CuS.call
def Jw(G)(e:Yy G)(a g r)(w:bS):CuS G 256 [w] a g r (.bool (decide (r.i<a.l.length)&&X6 a.l r.i==w)) r:=by intro st f;refine Zo 1000 30 _ func256 λX=>?_;simp only[Yb,Pi];refine Z1 ?_;by_cases b:r.i<aa a.l;have d:=zU ((r.i:Int)<aa a.l);have c:=AY b;generalize a.l[r.i]=t at c;rw[J8 c,EI b,DJ];refine Pr (j3 d c @Wd) e ?_;refine Z ?_;exact⟨rfl,zp⟩;have d:=zV ((r.i:Int)<aa a.l);rw[GC b,EG];refine Pr d e ?_;refine Z ?_;exact⟨rfl,zp⟩
def qt(G)(d:Yy G)(a g r)(hi:r.i<=a.l.length):CuS G 297 [] a g r (Za .any 3 Xy (a.sub r.i a.l.length)) r:=by intro st c;refine Zo 1000 12 _ func297 λX=>?_;simp only[Yb,Pi];refine Z1 ?_;have b:aa a.l<=aa a.l:=BO _;refine Zz<|Zv ⟨λ_=>.top,λ_=>.pure⟩ zk d zk zk ?_;refine Xc (zi hi b) ?_;refine Z ?_;exact⟨rfl,zp⟩
def dG(G)(f:Yy G)(a)(n:a.l.length<1000000)(g r)(hi:r.i<=a.l.length):CuS G 275 [] a g r (.tuple [.AB (if O7 a.l r.i=ad then X6 a.l r.i else[]),(O7 a.l r.i)])
  (if O7 a.l r.i=ad then⟨r.i+1,r.e⟩else⟨r.i,110⟩):=by
 intro st m;refine Zo 1000 50 _ func275 λX=>?_;simp only[Yb,Pi];refine Z1 ?_;refine Zz ?_;by_cases o:r.i=aa a.l;have h:((r.i:Int)==aa a.l)=ad:=by rw[CX];omega
 refine Pr h f ?_;refine Z ?_;rw[Oi zo];exact⟨rfl,zp⟩;have h:((r.i:Int)==aa a.l)=ab:=wE;have c:r.i<aa a.l:=zo;have b:=AY c;generalize a.l[r.i]=t at b;cases d:(t.AD==2);refine Zz<|Zv ⟨λ_=>.top,λ_=>.pure⟩ zk f zk zk ?_;simp -implicitDefEqProofs only[go_sem,seval,h,b,Wd,bne,d];refine Z ?_;rw[H4 b,d];exact⟨rfl,zp⟩;refine Zz<|Zv ⟨λ_=>.top,λ_=>.pure⟩ zk f zk zk ?_;simp -implicitDefEqProofs only[go_sem,seval,h,b,Wd,bne,d];refine Z0 ?_;have k:qN ((r.i:Int)+1)=((r.i+1:Nat):Int):=by rw[Xi zo zo];omega
 have j:qN (((r.i+1:Nat):Int)-1)=(r.i:Int):=by rw[Xi zo zo];omega
 refine Ym k ?_;refine Pr (j3 j b @Wd) f ?_;refine Z ?_;rw[H4 b,d,J8 b];exact⟨rfl,zp⟩
def Qt(G)(D:Yy G)(d)(F:d.l.length<1000000)(g r)(hi:r.i<=d.l.length)(c a)(E:a.length<1000)(y:∀ w∈a,w≠[])(b):CuS G 276 [Za c 1 V.AB (.mk b a)] d g r (.bool (V9 d.l a r.i).1) ⟨(V9 d.l a r.i).2,if(V9 d.l a r.i).1=ad then r.e else 110⟩:=by
 intro st B;refine Zo 1000 28 _ func276 λX=>?_;generalize K:V9 _ a _=v;simp only[Yb,Pi];have s:(Sl.mk b a).l=a:=rfl;refine Z1 ?_;refine Ym s ?_;refine BK ?_;refine Wy (aa a) (λm  _=>Go.Hs.st [(0,.ptr 21 g 0),(7,Za c 1 V.AB (.mk b a)),(8,aa a),(9,m)] [(21,GB d g st ⟨r.i+m,r.e⟩)])
  (λm _=>v=V9 d.l (a.drop m) (r.i+m)/\r.i+m<=aa d.l) 0 () qz ⟨K.symm,hi⟩ qs ?_
 rintro m _ L ⟨o,H⟩ M C;refine Z1 ?_;refine Zz ?_;refine Zi rfl (λp=>?_) (λp=>?_);rotate_left;have I:m=aa a:=by have:=zN p;omega
 rw[HT zo]at o;refine Z ?_;rw[o];exact⟨rfl,zp⟩;have j:=zL p;have t:=AY j;have u:=FL j;have k:=y _ (BT j);generalize a[m]=q at t u k;rw[u,V9]at o;refine Ym (zi s t) ?_;refine Z1 ?_;refine IH D (Jw G D d g ⟨r.i+m,r.e⟩ q) B zk zm rfl zr ?_;refine Zu ?_;have n:(decide (r.i+m<aa d.l)&&X6 d.l (r.i+m)==q)=(X6 d.l (r.i+m)==q):=by by_cases h:r.i+m<aa d.l;rw[EI h,DJ];rw[GC h,EG,Nv zo];symm;rw[FD];exact λh=>k h.symm
 rw[n];by_cases f:X6 d.l (r.i+m)=q
 rotate_left;rw[AA f]at o;have x:(X6 d.l (r.i+m)==q)=ab:=zu f;rw[x];refine Zf @Pi ?_;rw[o];exact⟨rfl,zp⟩;have J:r.i+m<aa d.l:=G7 (by rw[f];exact k);rw[AF f]at o;have x:(X6 d.l (r.i+m)==q)=ad:=zu f;rw[x];refine Z0 ?_
 have A:qN (((r.i+m:Nat):Int)+1)=((r.i+(m+1):Nat):Int):=by rw[Xi zo zo];omega
 have z:qN ((m:Int)+1)=((m+1:Nat):Int):=by rw[Xi zo zo];omega
 refine Ym (zi @Pi A) ?_;refine Ym z ?_;exact C _ ⟨j,(),⟨o,zo⟩,AO zp zp⟩
def dN(G)(o:CR G)(a)(m:FJ a.l)(g r)(hi:r.i<=a.l.length):CuS G 277 [] a g r (.tuple [.agg [encXs .new (Xt (a.l.drop r.i)).1],.bool ((Xt (a.l.drop r.i)).2.2==0)]) ⟨r.i+(Xt (a.l.drop r.i)).2.1.toNat,(Xt (a.l.drop r.i)).2.2⟩:=by
 have k:=o.ok;intro st j;refine Zo 1000 29 [.cell 2 196,.tmp 3] func277 λX=>?_;have u:=m.len;have b:(a.sub r.i (aa a.l)).l=a.l.drop r.i:=by rw[Mq];exact HY (by rw[EJ];omega)
 have d:=λc=>A1 G o c _ (by rw[b];exact⟨by rw[EJ];omega,λt q=>m.BG t (OW q)⟩);have f:=Qp (l:=a.l.drop r.i);rw[b]at d;rw[EJ]at f;generalize Xt _=p at d f;obtain⟨xs,n,e⟩:=p;simp only at f;have h:qN ((r.i:Int)+n)=((r.i+n.toNat:Nat):Int):=by rw[Xi zo zo];omega
 simp only[Yb,Pi];refine Z1 ?_;intro w;refine Z1 ?_;refine IH k (qt G k a g r hi) j zk rfl rfl zr ?_;simp -implicitDefEqProofs only[go_sem,seval,Yb,Xn];refine GW @Xn k ?_ (s:=(d _));refine Xc (j3 @encFr.eq_1 @encXs.eq_1 @Yu) ?_;intro v;refine Zf (zi @Pi h) ?_;exact⟨rfl,zp⟩
def sG(G)(L:CR G)(a)(K:FJ a.l)(g i)(hi:i<=a.l.length):CuS G 255 [] a g ⟨i,0⟩ (.tuple [R5 .new (Tn a.l 1 [58,61] [[59]] i).1,.bool ((Tn a.l 1 [58,61] [[59]] i).2.2==0)]) ⟨(Tn a.l 1 [58,61] [[59]] i).2.1.toNat,(Tn a.l 1 [58,61] [[59]] i).2.2⟩:=by
 have t:=L.ok;have O:=K.len;intro st r;have d:Tn _ 1 _ _ i=if O7 _ i=ab then(⟨1,[],[]⟩,(i:Int),110)
  else if X6 _ _≠[58,61]then(⟨1,X6 _ i,[]⟩,((i+1:Nat):Int),110)
  else if(1:Int)=2/\X6 _ _=[41]then Kw _ _ [[59]] (i+2)
  else Ef a.l 1 (X6 a.l i) [[59]] (i+2):=rfl
 generalize Tn a.l 1 [58,61] [[59]] i=N at d⊢;refine Zo 1000 39 [.cell 2 279,.tmp 3] func255 λX=>?_;simp only[Yb,Pi];refine Z1 ?_;intro z;refine Z1 ?_;refine Z1 ?_;refine IH t (dG G t a zo g ⟨i,0⟩ hi) r zk rfl rfl zr ?_;cases y:O7 a.l i with|false=>rw[AF y]at d;have A:(ab=ad)=False:=zS;simp -implicitDefEqProofs only[go_sem,seval,Yb,A];refine Z ?_;rw[d];exact⟨rfl,zp⟩|true=>
 rw[AA (by rw[y];decide)]at d;have D:i<aa a.l:=by refine MC λh=>?_;rw[Oi zo]at y;cases y
 simp -implicitDefEqProofs only[go_sem,seval,Yb];refine Z1 ?_;intro J;refine Vb (λo=>o==1018) [.ptr 21 g 0,Za .new 1 V.AB (.mk ab [[58,61]])] [(21,GB a g st ⟨i+1,0⟩),(1002,qC z 0 [.int .u8 1,(X6 a.l i),.AG])] ⟨Zd,Xm (f:=V.AB) (l:=[[58,61]]) rfl zp BE,AJ⟩ (by simp only[Z2,Z5,CE];exact⟨CQ rfl zp,CQ rfl zp⟩) ?_;refine IH t (Qt G t a zo g ⟨i+1,0⟩ D .old [[58,61]] zd zd ab) r zk zm rfl zr ?_;have w:V9 a.l [[58,61]] (i+1)=if X6 a.l (i+1)=[58,61]then(ad,i+2)else(ab,i+1):=rfl;by_cases k:X6 a.l (i+1)=[58,61]
 rotate_left;rw[AF k]at d;rw[w,AA k];have A:(ab=ad)=False:=zS;simp -implicitDefEqProofs only[go_sem,seval,Yb,A];refine Z ?_;rw[d];exact⟨rfl,zp⟩;rw[AA (zu k),AA (λh=>absurd h.1 zd)]at d;rw[w,AF k];have F:=G7 (by rw[k];decide);simp -implicitDefEqProofs only[go_sem,seval,Yb];refine W7 rfl ?_;unfold Ef at d;have q:=kV (l:=a.l.drop (i+2));have u:=Qp (l:=a.l.drop (i+2));have s:=dN G L a K g ⟨i+2,0⟩ F;simp only at s;rw[EJ]at u;generalize Xt (a.l.drop (i+2))=p at d q u s;obtain⟨xs,n,e⟩:=p;simp only at d q u s;refine Z1 ?_;refine IH t s r zk rfl (by first|rfl|(simp -implicitDefEqProofs only[go_sem,seval,encXs,Yu];try rfl)) zr ?_;simp -implicitDefEqProofs only[go_sem,seval,Yb,encXs];have B:e≠0->xs=[]:=q
 by_cases v:e=0
 rotate_left;rw[AF v]at d;have x:(e==0)=ab:=zu v;obtain rfl:=B v;rw[x]
 refine Zz<|U6 [(279,.ptr 1002 z 0,.agg [.int .u8 1,(X6 a.l i),.AG])] ⟨λj=>if j=0 then .agg [.int .u8 1,(X6 a.l i),.AG]else .top,λj=>if j=0 then .keep else if j=7 then .any else .pure⟩ zk t zk zk ?_;have H:Za AH.new 6 Y9 (Zb [])=.AG:=rfl;refine Xc H ?_;refine Z ?_;rw[d];have C:(((i+2:Nat):Int)+n).toNat=i+2+n.toNat:=zo;exact⟨by rw[<- x]<;>rfl,by simp only[C];simp -implicitDefEqProofs only[go_sem,seval];try rfl⟩;refine Zz<|U6 [(279,.ptr 1002 z 0,R5 .new ⟨1,X6 a.l i,xs⟩)] ⟨λj=>if j=0 then R5 .new ⟨1,X6 a.l i,xs⟩else .top,λj=>if j=0 then .keep else if j=7 then .any else .pure⟩ zk t zk zk ?_;have x:(e==0)=ad:=zu v;rw[AA (zu v)]at d;refine Xc (zi x @Lt) ?_;intro I;have E:i+2+n.toNat<=aa a.l:=zo;refine Vb (λo=>o==1035) [.ptr 21 g 0,Za .new 1 V.AB (.mk ab [[59]])] [(21,GB a g st ⟨i+2+n.toNat,e⟩),(1002,qC z 0 [.int .u8 1,(X6 a.l i),Za .new 6 Y9 (Zb xs)])] ⟨Zd,Xm (f:=V.AB) (l:=[[59]]) rfl zp BE,AJ⟩ (by simp only[Z2,Z5,CE];exact⟨CQ rfl zp,CQ rfl zp⟩) ?_;refine IH t (Qt G t a zo g ⟨i+2+n.toNat,e⟩ E .old [[59]] zd zd ab) r zk zm rfl zr ?_;refine Zu ?_;refine Z ?_;rw[d];unfold Kw;generalize V9 a.l [[59]] (i+2+n.toNat)=M;obtain⟨b,j⟩:=M;cases b;exact⟨rfl,zp⟩;exact⟨rfl,by rw[v];simp -implicitDefEqProofs only[go_sem,seval];try rfl⟩
def wx(G)(S:CR G)(a)(R:FJ a.l)(g i)(Q:X6 a.l i=Pu):CuS G 257 [] a g ⟨i,0⟩ (.tuple [R5 .new (Tn a.l 2 [40] [[41],[59]] (i+1)).1,.bool ((Tn a.l 2 [40] [[41],[59]] (i+1)).2.2==0)]) ⟨(Tn a.l 2 [40] [[41],[59]] (i+1)).2.1.toNat,(Tn a.l 2 [40] [[41],[59]] (i+1)).2.2⟩:=by
 have q:=S.ok;have U:=R.len;have M:=G7 (by rw[Q];decide);intro st k;have d:Tn _ 2 _ _ _=if O7 _ _=ab then(⟨2,[],[]⟩,((i+1:Nat):Int),110)
  else if X6 _ _≠[40]then(⟨2,X6 _ _,[]⟩,((i+2:Nat):Int),110)
  else if(2:Int)=2/\X6 _ _=[41]then Kw _ _ _ _
  else Ef _ 2 (X6 a.l (i+1)) [[41],[59]] (i+3):=rfl
 generalize Tn a.l 2 [40] [[41],[59]] (i+1)=T at d⊢;refine Zo 1000 53 [.cell 2 279,.tmp 3] func257 λX=>?_;simp only[Yb,Pi];refine Z1 ?_;intro A;refine Z1 ?_;refine Z1 ?_;intro W;refine Vb (λo=>o==1008) [.ptr 21 g 0,Za .new 1 V.AB (.mk ab [Pu])] [(21,GB a g st ⟨i,0⟩),(1002,qC A 0 [.int .u8 2,.AB [],.AG])] ⟨Zd,Xm (l:=[Pu]) rfl zp BE,AJ⟩ (by simp only[Z2,Z5,CE];exact⟨CQ rfl zp,CQ rfl zp⟩) ?_;refine IH q (Qt G q a zo g ⟨i,0⟩ (by show i<=_;omega) .old [Pu] zd zd ab) k zk zm rfl zr ?_;have K:V9 a.l [Pu] i=(ad,i+1):=by rw[V9,AF Q]<;>rfl
 rw[K];simp -implicitDefEqProofs only[go_sem,seval,Yb];refine Z1 ?_;refine IH q (dG G q a zo g ⟨i+1,0⟩ M) k zk rfl rfl zr ?_;cases E:O7 a.l (i+1)with|false=>rw[AF E]at d;have I:(ab=ad)=False:=zS;simp -implicitDefEqProofs only[go_sem,seval,Yb,I];refine Z ?_;rw[d];exact⟨rfl,zp⟩|true=>
 rw[AA (by rw[E];decide)]at d;have B:i+1<aa a.l:=by refine MC λh=>?_;rw[Oi zo]at E;cases E
 simp -implicitDefEqProofs only[go_sem,seval,Yb];refine Z1 ?_;intro P;refine Vb (λo=>o==1026) [.ptr 21 g 0,Za .new 1 V.AB (.mk ab [[40]])] [(21,GB a g st ⟨i+2,0⟩),(1002,qC A 0 [.int .u8 2,.AB (X6 a.l (i+1)),.AG])] ⟨Zd,Xm (f:=V.AB) (l:=[[40]]) rfl zp BE,AJ⟩ (by simp only[Z2,Z5,CE];exact⟨CQ rfl zp,CQ rfl zp⟩) ?_;refine IH q (Qt G q a zo g ⟨i+2,0⟩ B .old [[40]] zd zd ab) k zk zm rfl zr ?_;have v:V9 a.l [[40]] (i+2)=if X6 a.l (i+2)=[40]then(ad,i+3)else(ab,i+2):=rfl;by_cases r:X6 a.l (i+2)=[40]
 rotate_left;rw[AF r]at d;rw[v,AA r];have I:(ab=ad)=False:=zS;simp -implicitDefEqProofs only[go_sem,seval,Yb,I];refine Z ?_;rw[d];exact⟨rfl,zp⟩;rw[AA (zu r)]at d;rw[v,AF r];have C:=G7 (by rw[r];decide);simp -implicitDefEqProofs only[go_sem,seval,Yb];refine Z1 ?_;refine IH q (Jw G q a g ⟨i+3,0⟩ [41]) k zk rfl rfl zr ?_;refine Zu ?_
 have w:(decide (i+3<aa a.l)&&X6 a.l (i+3)==[41])=(X6 a.l (i+3)==[41]):=by by_cases h:i+3<aa a.l;rw[EI h,DJ];rw[GC h,EG,Nv zo]<;>rfl
 rw[w];by_cases t:X6 a.l (i+3)=[41];have H:=zu t;rw[H];rw[AF ⟨rfl,t⟩]at d;refine Z0 ?_;refine Zz<|U6 [(279,.ptr 1002 A 0,.agg [.int .u8 2,.AB (X6 a.l (i+1)),.AG])] ⟨λj=>if j=0 then .agg [.int .u8 2,.AB (X6 a.l (i+1)),.AG]else .top,λj=>if j=0 then .keep else if j=5 then .any else .pure⟩ zk q zk zk ?_;refine Zs ?_;intro y;refine Vb (λo=>o==1051) [.ptr 21 g 0,Za .new 1 V.AB (.mk ab [[41],[59]])] [(21,GB a g st ⟨i+3,0⟩),(1002,qC A 0 [.int .u8 2,.AB (X6 a.l (i+1)),.AG])] ⟨Zd,Xm (f:=V.AB) (l:=[[41],[59]]) rfl zp BE,AJ⟩ (by simp only[Z2,Z5,CE];exact⟨CQ rfl zp,CQ rfl zp⟩) ?_;refine IH q (Qt G q a zo g ⟨i+3,0⟩ C .old [[41],[59]] zd zd ab) k zk zm rfl zr ?_;refine Zu ?_;refine Z ?_;rw[d];unfold Kw;generalize V9 a.l [[41],[59]] (i+3)=F;obtain⟨b,j⟩:=F;cases b;exact⟨rfl,zp⟩;exact⟨rfl,zp⟩;have H:(X6 a.l (i+3)==[41])=ab:=zu t;rw[H];rw[AA (λh=>t h.2)]at d;refine W7 rfl ?_;unfold Ef at d;have s:=kV (l:=a.l.drop (i+3));have x:=Qp (l:=a.l.drop (i+3));have u:=dN G S a R g ⟨i+3,0⟩ C;simp only at u;rw[EJ]at x;generalize Xt (a.l.drop (i+3))=p at d s x u;obtain⟨xs,n,e⟩:=p;simp only at d s x u;refine Z1 ?_;refine IH q u k zk rfl (by first|rfl|(simp -implicitDefEqProofs only[go_sem,seval,encXs,Yu];try rfl)) zr ?_;simp -implicitDefEqProofs only[go_sem,seval,Yb,encXs];have J:e≠0->xs=[]:=s;by_cases z:e=0
 rotate_left;rw[AF z]at d;have D:(e==0)=ab:=zu z;obtain rfl:=J z;rw[D];refine Z1 ?_;refine W7 rfl ?_;have O:Za AH.new 6 Y9 (Zb [])=.AG:=rfl;refine Zf O ?_;rw[d];have L:(((i+3:Nat):Int)+n).toNat=i+3+n.toNat:=zo;exact⟨by rw[<- D]<;>rfl,by simp only[L];simp -implicitDefEqProofs only[go_sem,seval];try rfl⟩;have D:(e==0)=ad:=zu z;rw[AA (zu z)]at d;rw[D];refine Z1 ?_;refine Z0 ?_
 refine Zz<|U6 [(279,.ptr 1002 A 0,R5 .new ⟨2,X6 a.l (i+1),xs⟩)] ⟨λj=>if j=0 then R5 .new ⟨2,X6 a.l (i+1),xs⟩else .top,λj=>if j=0 then .keep else if j=5 then .any else .pure⟩ zk q zk zk ?_;refine Xc @Lt ?_;intro y;have N:i+3+n.toNat<=aa a.l:=zo;refine Vb (λo=>o==1051) [.ptr 21 g 0,Za .new 1 V.AB (.mk ab [[41],[59]])] [(21,GB a g st ⟨i+3+n.toNat,e⟩),(1002,qC A 0 [.int .u8 2,.AB (X6 a.l (i+1)),Za .new 6 Y9 (Zb xs)])] ⟨Zd,Xm (f:=V.AB) (l:=[[41],[59]]) rfl zp BE,AJ⟩ (by simp only[Z2,Z5,CE];exact⟨CQ rfl zp,CQ rfl zp⟩) ?_;refine IH q (Qt G q a zo g ⟨i+3+n.toNat,e⟩ N .old [[41],[59]] zd zd ab) k zk zm rfl zr ?_;refine Zu ?_;refine Z ?_;rw[d];unfold Kw;generalize V9 a.l [[41],[59]] (i+3+n.toNat)=F;obtain⟨b,j⟩:=F;cases b;exact⟨rfl,zp⟩;exact⟨rfl,by rw[z];simp -implicitDefEqProofs only[go_sem,seval];try rfl⟩
def OM(gx:Nat)(l:List EU):BL:=Z9 gx (R5 .new) l
def G'(l:List Tk)(i:Nat)(acc:List EU):Bool×CU×List EU:=
 if aa acc=512 then(ab,⟨i,3⟩,acc)else((Ud l i).2.2==0,⟨(Ud l i).2.1.toNat,(Ud l i).2.2⟩,acc++[(Ud l i).1])
def B8(G)(t:CR G)(a)(s:FJ a.l)(g i)(hi:i<a.l.length)(acc)(B:acc.length<=512)(gx):InSp ai G 239 [.ptr 21 g 0] (Yb Zm [(21,GB a g (AZ 1038 gx 3 acc) ⟨i,0⟩),(1038,OM gx acc)])
   (λv H'=>v=.bool (G' a.l i acc).1/\∃ gx',H' 21=GB a g (AZ 1038 gx' 3 (G' a.l i acc).2.2) (G' a.l i acc).2.1/\H' 1038=OM gx' (G' a.l i acc).2.2):=by
 have k:=t.ok;have C:=s.len;have d:G' _ i _=if aa acc=512 then(ab,⟨i,3⟩,acc)else((Ud _ i).2.2==0,⟨(Ud _ i).2.1.toNat,(Ud _ i).2.2⟩,acc++[(Ud a.l i).1]):=rfl;generalize G' _ i _=z at d⊢;refine Wx 1000 42 _ func239 rfl rfl rfl rfl λX=>?_;simp only[Yb];refine Z1 ?_;refine Z1 ?_;by_cases y:aa acc=512;rw[AF y]at d;have r:((aa acc:Int)==512)=ad:=by rw[CX];omega
 refine Zk λE h=>?_;refine Zf (zi @Pi r) ?_;rw[d];exact⟨rfl,gx,zp,zp⟩;rw[AA y]at d;have r:((aa acc:Int)==512)=ab:=wE;refine Yt (fun(_:Unit)=>st [(0,.ptr 21 g 0),(3,.func (.func (if X6 a.l i=Pu then 257 else 255)) [.ptr 21 g 0] [])] [(21,GB a g (AZ 1038 gx 3 acc) ⟨i,0⟩),(1038,OM gx acc)]) (λ_=>True) (λE h=>?_) ?_;refine Ym (zi @Pi r) ?_;refine Z1 ?_;refine IH k (Jw G k a g ⟨i,0⟩ Pu) (λF=>S9 F _ _ _ _) zk rfl rfl zr ?_;rw[EI hi,DJ];refine Zu ?_;by_cases j:X6 a.l i=Pu;have p:=zu j;rw[p];rw[AF j]at h;refine Z1 ?_;exact h _ () trivial qs;have p:(X6 a.l i==Pu)=ab:=zu j;rw[p];rw[AA j]at h;refine Z0 ?_;exact h _ () trivial qs;intro _ _;have c:Ud a.l i=if X6 a.l i=Pu then Tn a.l 2 [40] [[41],[59]] (i+1)else Tn a.l 1 [58,61] [[59]] i:=rfl;by_cases j:X6 a.l i=Pu;rw[AF j]at c;rw[AF j];have b:=wx G t a s g i j;rw[<- c]at b;have o:=(G9 a.l i).ge;generalize Ud a.l i=q at d b o;obtain⟨x,m,e⟩:=q;simp only at d b o;generalize A:m.toNat=n at d b;refine Z1 ?_;refine IH k b (λF=>S9 F _ _ _ _) zk rfl (by first|rfl|(simp -implicitDefEqProofs only[go_sem,seval,Lt,Yu];try rfl)) zr ?_;simp -implicitDefEqProofs only[go_sem,seval,Yb,Lt];intro D;refine Pr @Pi k ?_;intro u;refine Yg (l2:=[x]) (Ph _) rfl rfl rfl zp (Z3 zo zO) λw=>?_;refine Zs ?_;refine Z ?_;rw[d];exact⟨rfl,w,zp,zp⟩;rw[AA j]at c;rw[AA j];have b:=sG G t a s g i zo;rw[<- c]at b;have o:=(G9 a.l i).ge;generalize Ud a.l i=q at d b o;obtain⟨x,m,e⟩:=q;simp only at d b o;generalize A:m.toNat=n at d b;refine Z1 ?_;refine IH k b (λF=>S9 F _ _ _ _) zk rfl (by first|rfl|(simp -implicitDefEqProofs only[go_sem,seval,Lt,Yu];try rfl)) zr ?_;simp -implicitDefEqProofs only[go_sem,seval,Yb,Lt];intro D;refine Pr @Pi k ?_;intro u;refine Yg (l:=acc) (l2:=[x]) (Ph _) rfl rfl rfl zp (Z3 zo zO) λw=>?_;refine Zs ?_;refine Z ?_;rw[d];exact⟨rfl,w,zp,zp⟩
@[go_sem] def AD9(S g v r):(GB S g v r).noMp=GB S g v r:=rfl
@[go_sem] def AD'(g l):(OM g l).noMp=OM g l:=by cases l<;>rfl
def xk{l n f i acc}(hi:i<l.length):Mn l n (f+1) i acc =
  if(G' l i acc).1=ab then([],Hx l n ((G' l i acc).2.1.i:Int),(G' l i acc).2.1.e)else Mn l n f (G' l i acc).2.1.i (G' l i acc).2.2:=by
 rw[Mn,AA zo];unfold G';by_cases b:aa acc=512;rw[AF b,AF b]<;>rfl;rw[AA b,AA b];have c:=(G9 l i).ge;by_cases a:(Ud l i).2.2=0;rw[AA (zu a),AA (by simp[a])];have q:((Ud l i).2.2==0)=ab:=zu a;rw[AF a,AF q];simp only[Int.toNat_of_nonneg (show 0<=(Ud l i).2.1 by omega)]
def nk{l i acc}(h:(G' l i acc).1=ad):(G' l i acc).2.1.e=0/\i<(G' l i acc).2.1.i/\(G' l i acc).2.1.i<=l.length/\(G' l i acc).2.2.length=acc.length+1/\acc.length≠512:=by unfold G' at h⊢;by_cases a:aa acc=512;rw[AF a]at h;cases h;rw[AA a]at h⊢;have b:=zu h;have⟨c,h2⟩:=(G9 l i).ok b;refine⟨b,?_,?_,by rw[BQ]<;>rfl,a⟩;show i<(Ud l i).2.1.toNat;omega;show(Ud l i).2.1.toNat<=aa l;omega
def gK(r:List EU×Int×Int):V:=.tuple [.agg [UT .new r.1],qI r.2.1,qI r.2.2]
def AAf(G)(O:CR G)(s:bS)(Q:s.length<100000):Spec () G 207 [s] Zm (gK (Nd s)):=by
 have N:=O.ok;refine Zo 0 69 [.cell 2 243,.tmp 3,.tmp 4] func207 λX=>?_;have B:Nd s=if(Yr s).2.2≠0 then(([]:List _),(Yr s).2.1,(Yr s).2.2)else Mn _ (aa s) (aa (Yr s).1+1) 0 []:=rfl;generalize Nd s=J at B⊢;have H:=J9 Q;have T:=Rz G O s Q;generalize Yr s=p at B H T;obtain⟨l,at0,P⟩:=p;simp only at B H;have hTl:=H.len;refine Z1 ?_;intro W;refine Z1 ?_;refine Zn N ?_ (s:=T);refine Xc (j3 @encTok.eq_1 @encTks.eq_1 @Xn) ?_;have U:=Zl l;generalize Zb l=S at U;subst U;refine Zz ?_;by_cases F:P=0
 rotate_left;rw[AF F]at B;have L:(P==0)=ab:=zu F;refine Wo zk ?_;simp -implicitDefEqProofs only[go_sem,seval,bne,L];refine Z ?_
 rw[B]<;>rfl;rw[AA (zu F)]at B;have L:=zu F;refine Wo zk ?_;simp -implicitDefEqProofs only[go_sem,seval,bne,L];refine Z1 ?_;intro g;refine Y2 (λ_=>ab) [0,2,5,6] [2] (l:=[]) (m:=[(21,GB S g .AG ⟨0,0⟩)]) trivial ?_ ?_;simp only[Z2,Z5,CE];exact pr (cs:=[Za .new 3 Xy S,qI 0,qI 0,.AG]) rfl zp ⟨Fz.any (Vw @Xn),Zd,Zd,Zd,AJ⟩;refine Zz ?_;refine BK ?_;refine Xw [0,2,5,6] [2] (fun x=>[]) (λx=>[(21,GB S g (AZ 1038 x.1.1 3 x.2) ⟨x.1.2,0⟩),(1038,OM x.1.1 x.2)]) (λx=>x.1.2<=aa S.l/\aa x.2<=512/\∃ f,aa S.l<f+x.1.2/\Mn S.l (aa s) f x.1.2 x.2=J) (λx=>aa S.l-x.1.2) ((0,0),[]) ⟨CB _,CB _,aa S.l+1,GH _,B.symm⟩ zp (by refine Zs ?_;first|rfl|exact⟨rfl,rfl⟩) ?_;rintro⟨⟨I,i⟩,d⟩ ⟨Y,E,f,hf,h⟩ L3 M;simp only at Y E hf h;refine Zz ?_;cases f with|zero=>omega|succ f=>
 refine Ym @Pi ?_;refine Zi rfl (λD=>?_) (λD=>?_);rotate_left;have r:aa S.l<=i:=by have:=zN D;omega
 rw[Mn,AF r]at h;refine Z0 ?_;refine BM (Z4 (λo=>o==1038) (l:=[(2,.ptr 2 W 0),(6,.ptr 21 g 0)]) (m:=[(2,qC W 0 [.AG]),(21,.cells .any g 0 [.top,i,qI 0,Za .new 3 (R5 .new) (Zb d)])]) ?_ ?_) ?_;refine Zs ?_
 first|exact⟨Zd,Zd⟩|exact Zd
 simp only[Z2,Z5,CE];exact⟨CQ rfl zp,D_ (c:=.any) (cs:=[Za .any 3 Xy S,i,qI 0,AZ 1038 I 3 d]) rfl zp ⟨Fz.top _,Zd,Zd,Yp rfl zp (Ph _),AJ⟩⟩;refine Z ?_;rw[<- h]<;>rfl;have r:=zL D;rw[xk r]at h;refine Z0 ?_;refine BK ?_;have w:=B8 G O S H g i r d E I;have y:=@nk S.l i d;generalize G' S.l i d=q at h w y;obtain⟨b,⟨j,e⟩,a⟩:=q;simp only at h w y;refine Z1 ?_;refine HO [(21,GB S g (AZ 1038 I 3 d) ⟨i,0⟩),(1038,OM I d)] zk ?_ ?_;intro p R;simp only[BY,CL,CF]at R;rcases R with rfl|rfl
 .simp -implicitDefEqProofs only[go_sem,seval];try rfl
 .simp -implicitDefEqProofs only[go_sem,seval];try rfl
 refine w.mono ?_;rintro _ H' ⟨rfl,n,K,u⟩;simp only[BI,BV,K,u];cases b;rw[AF rfl]at h;refine Zu ?_;refine Ym @Pi ?_;refine Zi rfl (λC=>?_) (λC=>?_);have z:=zL C;have A:=AY z;generalize S.l[j]=t at A;rw[Xb A]at h;refine Y2 (λo=>o==21) [0,2,5] [2] (l:=[(6,.view .any (.agg [Za .any 3 Xy S,j,e,AZ 1038 n 3 a]))]) (m:=[]) ?_ trivial ?_;refine Zs ?_;exact CS (c:=.any) (v:=.agg [Za .any 3 Xy S,j,e,AZ 1038 n 3 a]) rfl zp;refine Zz<|Zv ⟨λ_=>.top,λk=>if k=6 then .CO else if k=9 then .CO else if k=14 then .CO else .pure⟩ zk N zk zk ?_;refine Xc (zi A @Wd) ?_;refine Z ?_;rw[<- h]<;>rfl;have z:¬j<aa S.l:=by have:=zN C;omega
 refine Z0 ?_;refine Y2 (λo=>o==21) [0,2,5] [2] (l:=[(6,.view .any (.agg [Za .any 3 Xy S,j,e,AZ 1038 n 3 a]))]) (m:=[]) ?_ trivial ?_;refine Zs ?_;exact CS (c:=.any) (v:=.agg [Za .any 3 Xy S,j,e,AZ 1038 n 3 a]) rfl zp;refine Zz<|Zv ⟨λ_=>.top,λk=>if k=7 then .CO else .pure⟩ zk N zk zk ?_;refine Zs ?_;refine Z ?_;rw[<- h];unfold Hx;rw[AA zo]<;>rfl;obtain⟨rfl,hj,z,hal,ha5⟩:=y rfl;rw[AA zd]at h;refine Zu ?_;refine Z0 ?_;refine M _ ⟨((n,j),a),?_,⟨?_,?_,f,?_,h⟩,AO zp zp⟩;show aa S.l-j<aa S.l-i;omega;show j<=_;omega;show aa a<=_;omega;show aa S.l<f+j;omega
def hU{b}(h:Th b=0):b.length<=512/\∀ s∈b,Sp s=ad:=by unfold Th at h;split at h;cases h;split at h;rename_i a h2;rw[ER]at h2;exact⟨zo,h2⟩;cases h
def iD(l):Th l=0\/Th l=2:=by unfold Th;split;exact .inr rfl;split;exact .inl rfl;exact .inr rfl
def Uq(w):(V.AB w).cells.length=1:=rfl
def Hf(G)(p:Yy G)(c)(t:bS)(s)(n:s.l.length<1000000):Spec () G 222 [t,Za c 1 V.AB s] Zm (s.l.contains t):=by
 refine Zo 0 18 [.tmp 4] func222 λX=>?_;refine Z1 ?_;refine Z1 ?_;refine BK ?_;refine Z8 [0,1] [] (aa s.l) (λk  _=>[(5,k)]) (λ_ _=>[]) (λk _=>(s.l.take k).contains t=ab) 0 () qz rfl zp zp ?_;intro k _ o f q g;refine Z1 ?_;refine Zi rfl (λi=>?_) (λi=>?_);have a:=zu i;have j:=AY a;have e:s.l.take (k+1)=s.l.take k++[s.l[k]]:=by rw[DO a]
 have b:=BT a;generalize s.l[k]=x at j e b;refine Ym j ?_;refine Zi rfl (λd=>?_) (λd=>?_);have d:=zu d;refine Z ?_;have:s.l.contains t=ad:=by rw[<- d];simpa using b
 rw[this];have d:=zu d;refine Z1 ?_;refine g _ ⟨a,(),?_,AO zw zp⟩;rw[e];simp only[NL,IL]at f⊢;intro m;rcases DX.1 m with h|h;exact f h;exact d ((CP.1 h).symm);have a:k=aa s.l:=by simp at i;omega
 refine Z ?_;rw[a,B_]at f;rw[f]
def ACQ{op nm a b c}(h:op=1):kd op nm a b c=1:=by unfold kd;rw[AF (.inl h)]
def P1{op nm a b c v}(d:op≠1)(h2:op≠2)(h:(if op=3\/op=4 then 2
 else if op=5/\a=1\/7<=op/\op<=11/\a=1/\b=1 then 1
 else if 12<=op/\op<=15/\a=1/\b=1\/(op=16\/op=17)/\a=b/\a≠0 then 2
 else if op=6/\a=2\/18<=op/\op<=21/\a=2/\b=2 then 2
 else if op=22/\a=2/\b=c then b else 0:Int)=v):kd op nm a b c=v:=by
 unfold kd;rw[AA (by rintro(h|h);exact d h;exact h2 h.1)];exact h
def Wi(i): @decide True i=ad:=OH.2 trivial
def Wj(i): @decide False i=ab:=IL.2 id
def SF(s:Sl XN)(names:Sl bS)(G:Nat->V)(i d:Int):Prop:=∀ c c1,Spec () G 264 [Za c 6 Y9 s,i,Za c1 1 V.AB names] Zm d
set_option maxHeartbeats 4000000 in
def Le(G:Nat->V)(hG:Yy G)(s:Sl XN)(names:Sl bS)(hnl:aa names.l<1000000)(m:Nat)(n:XN)(hg:s.l[m]?=ae n)(hop:1<=n.op/\n.op<=22)(a b c:Int)(ha:n.a<0/\a=0\/0<=n.a/\SF s names G n.a a)(hb:n.b<0/\b=0\/0<=n.b/\SF s names G n.b b)(hc:n.c<0/\c=0\/0<=n.c/\SF s names G n.c c):SF s names G m (kd n.op (names.l.contains n.name) a b c):=by
 intro c0 c1;refine Hg 0 153 [.tmp 6] func264 rfl rfl rfl rfl λX=>?_;have hm:m<aa s.l:=(DG.1 hg).1;have J:kd n.op (names.l.contains n.name) a b c=kd n.op (names.l.contains n.name) a b c:=rfl;generalize S:kd n.op (names.l.contains n.name) a b c=x;rw[S]at J;replace J:=J.symm.trans J;clear J;have J:x=kd n.op (names.l.contains n.name) a b c:=S.symm;clear S;refine Z1 ?_;refine Zk λK d=>CA zk ?_;refine Xc (j3 hg hm @X7) ?_;intro U;refine d _ ?_;clear d K;refine Z1 ?_;refine Yt (fun(_:Unit)=>st [(0,Za c0 6 Y9 s),(2,Za c1 1 V.AB names),(7,.ptr 7 U 0),(8,a),(9,qI 0),(10,qI 0)] [(7,qC U 0 [.int .u8 n.op,n.num,n.name,n.a,n.b,n.c])]) (λ_=>True) (λK1 N=>?_) ?_;refine Z1 ?_;rcases ha with ⟨h1,h2⟩|⟨h1,h2⟩;have R:=zV (n.a>=0);refine Zi (zp) (λQ=>?_) (λQ=>?_);rw[R]at Q;cases Q;refine EP ?_;refine Zs ?_;exact N _ () trivial (AO (by refine Zs ?_;rw[h2]) (zp))
 .have R:=zU (n.a>=0);refine Zi (zp) (λQ=>?_) (λQ=>?_);rotate_left;rw[R]at Q;cases Q;refine CA zk ?_;refine Zs ?_;refine GS hG zk ?_;refine Xc @Yu ?_;refine(h2 _ _).mono ?_;rintro _ _ rfl;refine Zs ?_;exact N _ () trivial (AO (zp) (zp))
 intro _ _;refine Yt (fun(_:Unit)=>st [(0,Za c0 6 Y9 s),(2,Za c1 1 V.AB names),(7,.ptr 7 U 0),(8,a),(9,b),(10,qI 0)] [(7,qC U 0 [.int .u8 n.op,n.num,n.name,n.a,n.b,n.c])]) (λ_=>True) (λK1 N=>?_) ?_;refine Z1 ?_;rcases hb with ⟨h1,h2⟩|⟨h1,h2⟩;have R:=zV (n.b>=0);refine Zi (zp) (λP=>?_) (λP=>?_);rw[R]at P;cases P;refine EP ?_;refine Zs ?_;exact N _ () trivial (AO (by refine Zs ?_;rw[h2]) (zp))
 .have R:=zU (n.b>=0);refine Zi (zp) (λP=>?_) (λP=>?_);rotate_left;rw[R]at P;cases P;refine CA zk ?_;refine Zs ?_;refine GS hG zk ?_;refine Xc @Yu ?_;refine(h2 _ _).mono ?_;rintro _ _ rfl;refine Zs ?_;exact N _ () trivial (AO (zp) (zp))
 intro _ _;refine Yt (fun(_:Unit)=>st [(0,Za c0 6 Y9 s),(2,Za c1 1 V.AB names),(7,.ptr 7 U 0),(8,a),(9,b),(10,c)] [(7,qC U 0 [.int .u8 n.op,n.num,n.name,n.a,n.b,n.c])]) (λ_=>True) (λK1 N=>?_) ?_;refine Z1 ?_;rcases hc with ⟨h1,h2⟩|⟨h1,h2⟩;have R:=zV (n.c>=0);refine Zi (zp) (λO=>?_) (λO=>?_);rw[R]at O;cases O;refine EP ?_;refine Zs ?_;exact N _ () trivial (AO (by refine Zs ?_;rw[h2]) (zp))
 .have R:=zU (n.c>=0);refine Zi (zp) (λO=>?_) (λO=>?_);rotate_left;rw[R]at O;cases O;refine CA zk ?_;refine Zs ?_;refine GS hG zk ?_;refine Xc @Yu ?_;refine(h2 _ _).mono ?_;rintro _ _ rfl;refine Zs ?_;exact N _ () trivial (AO (zp) (zp))
 intro _ _;clear ha hb hc hg hm;have⟨w,num,T,na,nb,nc⟩:=n;simp only at hop J;refine Z1 ?_;by_cases hc2:w=2
 .subst hc2;refine Z ?_;refine GS hG zk ?_;refine Zs ?_;refine(ABU G hG _ T names hnl).mono ?_;rintro _ _ rfl;refine Zs ?_;cases W:names.l.contains T;have o:x=0:=by rw[J,W];rfl
  refine Zf W ?_;rw[o];refine Zf W ?_;rw[J,W];rfl
 by_cases hc1:w=1
 .subst hc1;have o:x=1:=by rw[J];exact ACQ zo
  refine Z ?_;rw[o]
 by_cases hc3:w=3
 .subst hc3;have o:x=2:=by rw[J];exact P1 zo zo (by repeat' split<;>omega)
  refine Z ?_;rw[o]
 by_cases hc4:w=4
 .subst hc4;have o:x=2:=by rw[J];exact P1 zo zo (by repeat' split<;>omega)
  refine Z ?_;rw[o]
 by_cases hc5:w=5;subst hc5;by_cases I:a=1
 .have i:(a==1)=ad:=zu I;have o:x=1:=by rw[J];exact P1 zo zo (by repeat' split<;>omega)
  refine Zf (j3 @Wi @Wj i) ?_;rw[o]
 by_cases H:¬a=1;have i:(a==1)=ab:=zu H;have o:x=0:=by rw[J];exact P1 zo zo (by repeat' split<;>omega)
 refine Zf (j3 @Wi @Wj i) ?_;rw[o];exfalso;omega;by_cases hc6:w=6;subst hc6;by_cases I:a=2
 .have i:(a==2)=ad:=zu I;have o:x=2:=by rw[J];exact P1 zo zo (by repeat' split<;>omega)
  refine Zf (j3 @Wi @Wj i) ?_;rw[o]
 by_cases H:¬a=2;have i:(a==2)=ab:=zu H;have o:x=0:=by rw[J];exact P1 zo zo (by repeat' split<;>omega)
 refine Zf (j3 @Wi @Wj i) ?_;rw[o];exfalso;omega;by_cases hc7:7<=w/\w<=11;have F:(w==1)=ab:=wE;have E:(w==2)=ab:=wE;have D:(w==3)=ab:=wE;have f3:(w==4)=ab:=wE;have f4:(w==5)=ab:=wE;have C:(w==6)=ab:=wE;have B:(w==16)=ab:=wE;have A:(w==17)=ab:=wE;have z:(w==22)=ab:=wE;have y:=zU (w>=7);have u:=zV (w>=12);have t:=zV (w>=18);have r:=zU (w<=11);have q:=zU (w<=15);have p:=zU (w<=21);by_cases I:a=1/\b=1
 .have i:(a==1)=ad:=zu I.1;have v:(b==1)=ad:=zu I.2;have o:x=1:=by rw[J];exact P1 zo zo (by repeat' split<;>omega)
  refine Zf (OJ F E D f3 f4 C B A z y u t r q p i v) ?_;rw[o]
 by_cases H:a=1/\¬b=1;have i:(a==1)=ad:=zu H.1;have v:(b==1)=ab:=zu H.2;have o:x=0:=by rw[J];exact P1 zo zo (by repeat' split<;>omega)
 refine Zf (OJ F E D f3 f4 C B A z y u t r q p i v) ?_;rw[o];by_cases M:¬a=1;have i:(a==1)=ab:=zu M;have o:x=0:=by rw[J];exact P1 zo zo (by repeat' split<;>omega)
 refine Zf (VH F E D f3 f4 C B A z y u t r q p i) ?_;rw[o];exfalso;omega;by_cases hc12:12<=w/\w<=15;have F:(w==1)=ab:=wE;have E:(w==2)=ab:=wE;have D:(w==3)=ab:=wE;have f3:(w==4)=ab:=wE;have f4:(w==5)=ab:=wE;have C:(w==6)=ab:=wE;have B:(w==16)=ab:=wE;have A:(w==17)=ab:=wE;have z:(w==22)=ab:=wE;have y:=zU (w>=7);have u:=zU (w>=12);have t:=zV (w>=18);have r:=zV (w<=11);have q:=zU (w<=15);have p:=zU (w<=21);by_cases I:a=1/\b=1
 .have i:(a==1)=ad:=zu I.1;have v:(b==1)=ad:=zu I.2;have o:x=2:=by rw[J];exact P1 zo zo (by repeat' split<;>omega)
  refine Zf (OJ F E D f3 f4 C B A z y u t r q p i v) ?_;rw[o]
 by_cases H:a=1/\¬b=1;have i:(a==1)=ad:=zu H.1;have v:(b==1)=ab:=zu H.2;have o:x=0:=by rw[J];exact P1 zo zo (by repeat' split<;>omega)
 refine Zf (OJ F E D f3 f4 C B A z y u t r q p i v) ?_;rw[o];by_cases M:¬a=1;have i:(a==1)=ab:=zu M;have o:x=0:=by rw[J];exact P1 zo zo (by repeat' split<;>omega)
 refine Zf (VH F E D f3 f4 C B A z y u t r q p i) ?_;rw[o];exfalso;omega;by_cases hc16:w=16;subst hc16;by_cases I:a=b/\¬a=0
 .have i:(a==b)=ad:=zu I.1;have v:(a != 0)=ad:=zu I.2;have o:x=2:=by rw[J];exact P1 zo zo (by repeat' split<;>omega)
  refine Zf (j4 @Wi @Wj i v) ?_;rw[o]
 by_cases H:a=b/\a=0;have i:(a==b)=ad:=zu H.1;have v:(a != 0)=ab:=zu H.2;have o:x=0:=by rw[J];exact P1 zo zo (by repeat' split<;>omega)
 refine Zf (j4 @Wi @Wj i v) ?_;rw[o];by_cases M:¬a=b;have i:(a==b)=ab:=zu M;have o:x=0:=by rw[J];exact P1 zo zo (by repeat' split<;>omega)
 refine Zf (j3 @Wi @Wj i) ?_;rw[o];exfalso;omega;by_cases hc17:w=17;subst hc17;by_cases I:a=b/\¬a=0
 .have i:(a==b)=ad:=zu I.1;have v:(a != 0)=ad:=zu I.2;have o:x=2:=by rw[J];exact P1 zo zo (by repeat' split<;>omega)
  refine Zf (j4 @Wi @Wj i v) ?_;rw[o]
 by_cases H:a=b/\a=0;have i:(a==b)=ad:=zu H.1;have v:(a != 0)=ab:=zu H.2;have o:x=0:=by rw[J];exact P1 zo zo (by repeat' split<;>omega)
 refine Zf (j4 @Wi @Wj i v) ?_;rw[o];by_cases M:¬a=b;have i:(a==b)=ab:=zu M;have o:x=0:=by rw[J];exact P1 zo zo (by repeat' split<;>omega)
 refine Zf (j3 @Wi @Wj i) ?_;rw[o];exfalso;omega;by_cases hc18:18<=w/\w<=21;have F:(w==1)=ab:=wE;have E:(w==2)=ab:=wE;have D:(w==3)=ab:=wE;have f3:(w==4)=ab:=wE;have f4:(w==5)=ab:=wE;have C:(w==6)=ab:=wE;have B:(w==16)=ab:=wE;have A:(w==17)=ab:=wE;have z:(w==22)=ab:=wE;have y:=zU (w>=7);have u:=zU (w>=12);have t:=zU (w>=18);have r:=zV (w<=11);have q:=zV (w<=15);have p:=zU (w<=21);by_cases I:a=2/\b=2
 .have i:(a==2)=ad:=zu I.1;have v:(b==2)=ad:=zu I.2;have o:x=2:=by rw[J];exact P1 zo zo (by repeat' split<;>omega)
  refine Zf (OJ F E D f3 f4 C B A z y u t r q p i v) ?_;rw[o]
 by_cases H:a=2/\¬b=2;have i:(a==2)=ad:=zu H.1;have v:(b==2)=ab:=zu H.2;have o:x=0:=by rw[J];exact P1 zo zo (by repeat' split<;>omega)
 refine Zf (OJ F E D f3 f4 C B A z y u t r q p i v) ?_;rw[o];by_cases M:¬a=2;have i:(a==2)=ab:=zu M;have o:x=0:=by rw[J];exact P1 zo zo (by repeat' split<;>omega)
 refine Zf (VH F E D f3 f4 C B A z y u t r q p i) ?_;rw[o];exfalso;omega;by_cases Y:w=22;subst Y;by_cases I:a=2/\b=c
 .have i:(a==2)=ad:=zu I.1;have v:(b==c)=ad:=zu I.2;have o:x=b:=by rw[J];exact P1 zo zo (by repeat' split<;>omega)
  refine Zf (j4 @Wi @Wj i v) ?_;rw[o]
 by_cases H:a=2/\¬b=c;have i:(a==2)=ad:=zu H.1;have v:(b==c)=ab:=zu H.2;have o:x=0:=by rw[J];exact P1 zo zo (by repeat' split<;>omega)
 refine Zf (j4 @Wi @Wj i v) ?_;rw[o];by_cases M:¬a=2;have i:(a==2)=ab:=zu M;have o:x=0:=by rw[J];exact P1 zo zo (by repeat' split<;>omega)
 refine Zf (j3 @Wi @Wj i) ?_;rw[o];exfalso;omega;exfalso;omega
def Oe(G)(f:Yy G)(s names)(c:names.l.length<1000000):∀ x b,At s.l x b->x.ok=ad->SF s names G ((b:Int)+x.size-1) (Ux names.l x)
 |.leaf op num name,b,h,ho=>by
  simp only[X.ok,BP,CM]at ho;have q:=Oa ho.1;have:=Le G f s names c b _ h.get q 0 0 0 (.inl ⟨by show(-1:Int)<0;decide,rfl⟩) (.inl ⟨by show(-1:Int)<0;decide,rfl⟩) (.inl ⟨by show(-1:Int)<0;decide,rfl⟩);have e:(b:Int)+(X.leaf op num name).size-1=(b:Nat):=by simp only[X.size];omega
  rw[e];exact this
 |.un op a,b,h,ho=>by
  simp only[X.ok,BP,CM]at ho;have o:=Oe G f s names c a b h.un ho.2;have t:=a.size_pos;have:=Le G f s names c _ _ h.get (by show 1<=op/\op<=22;omega) _ 0 0 (.inr ⟨by show(0:Int)<=(b:Int)+a.size-1;omega,o⟩) (.inl ⟨by show(-1:Int)<0;decide,rfl⟩) (.inl ⟨by show(-1:Int)<0;decide,rfl⟩);have e:(b:Int)+(X.un op a).size-1=((b+(X.un op a).size-1:Nat):Int):=by simp only[X.size];omega
  rw[e];exact this
 |.DP op x y,b,h,ho=>by
  simp only[X.ok,BP,CM]at ho;have⟨k,j⟩:=h.DP;have g:=Oe G f s names c x b k ho.1.2;have d:=Oe G f s names c y (b+x.size) j ho.2;have n:=x.size_pos;have m:=y.size_pos;rw[show((b+x.size:Nat):Int)+y.size-1=(b:Int)+x.size+y.size-1 by omega]at d;have:=Le G f s names c _ _ h.get (by show 1<=op/\op<=22;omega) _ _ 0 (.inr ⟨by show(0:Int)<=(b:Int)+x.size-1;omega,g⟩) (.inr ⟨by show(0:Int)<=(b:Int)+x.size+y.size-1;omega,d⟩) (.inl ⟨by show(-1:Int)<0;decide,rfl⟩);have e:(b:Int)+(X.DP op x y).size-1=((b+(X.DP op x y).size-1:Nat):Int):=by simp only[X.size];omega
  rw[e];exact this
 |.ite x y z,b,h,ho=>by
  simp only[X.ok,BP]at ho;have⟨k,j,p⟩:=h.ite;have g:=Oe G f s names c x b k ho.1.1;have d:=Oe G f s names c y (b+x.size) j ho.1.2;have i:=Oe G f s names c z (b+x.size+y.size) p ho.2;have n:=x.size_pos;have m:=y.size_pos;have r:=z.size_pos;rw[show((b+x.size:Nat):Int)+y.size-1=(b:Int)+x.size+y.size-1 by omega]at d;rw[show((b+x.size+y.size:Nat):Int)+z.size-1=(b:Int)+x.size+y.size+z.size-1 by omega]at i;have:=Le G f s names c _ _ h.get (by show 1<=(22:Int)/\(22:Int)<=22;decide) _ _ _ (.inr ⟨by show(0:Int)<=(b:Int)+x.size-1;omega,g⟩) (.inr ⟨by show(0:Int)<=(b:Int)+x.size+y.size-1;omega,d⟩) (.inr ⟨by show(0:Int)<=(b:Int)+x.size+y.size+z.size-1;omega,i⟩);have e:(b:Int)+(X.ite x y z).size-1=((b+(X.ite x y z).size-1:Nat):Int):=by simp only[X.size];omega
  rw[e];exact this
def yy{names}{l:List X}{k y}(h:l[k]?=ae y)(ks):M_ names (l.drop k) k ks=if Ux names y=0 then([],(k:Int),90)else M_ names (l.drop (k+1)) (k+1:Nat) (ks++[Ux names y]):=by have⟨a,h2⟩:=DG.1 h;rw[FL a,h2]<;>rfl
def AAr(G)(B:Yy G)(c c1 s names)(R:s.l.length<1000000)(E:∀ n∈s.l,n.name.length<100000)(F:names.l.length<1000000):Spec () G 246 [Za c 6 Y9 s,Za c1 1 V.AB names] Zm (encKr .new (Wq names.l s.l)):=by
 refine Zo 0 35 _ func246 λX=>?_;have t:Wq _ _=if Vp _≠0 then([],0,Vp s.l)else GO names.l s.l 0 []:=rfl;generalize Wq names.l s.l=i at t⊢;refine Z1 ?_;refine Z1 ?_;refine Co @Yu B ?_ (s:=(Bb G B _ s R E));refine Z1 ?_;by_cases r:Vp s.l=0
 rotate_left;have D:(Vp s.l != 0)=ad:=zu r;rw[AF r]at t;refine Zi rfl (λd=>?_) (λd=>?_);refine Z ?_
 rw[t]<;>rfl;rw[D]at d;cases d;have D:=zu r;rw[AA (zu r)]at t;refine Zi rfl (λd=>?_) (λd=>?_);rw[D]at d;cases d;refine Z0 ?_;have z:Wg s.l≠0:=by intro h;rw[Vp,AF h]at r;cases r
 have⟨x,O,H⟩:=Gf z;have J:=H ▸ E2 x;have M:aa s.l=x.size:=by rw[H,Go.Hs.X.row_len]
 have Q:=W8 x;have K:i=M_ names.l (Rk x) 0 []:=by have:=dD (names:=names.l) x x.size 0 zo;simp only[HB,HZ,BV]at this;rw[t,H];exact this
 try clear t
 refine Z1 ?_;refine Z1 ?_;refine BK ?_;refine Z8 [0,1] [] (aa s.l) (λk (y:Nat×iS)=>[(8,AZ 33 y.1 1 y.2),(9,k)]) (λk y=>[(33,Z9 y.1 (V.int .u8) y.2)]) (λk y=>i=M_ names.l ((Rk x).drop k) k y.2/\aa y.2=k) 0 (0,[]) qz ⟨K,rfl⟩ zp zp ?_;rintro k ⟨T,q⟩ Y ⟨e,j⟩ L3 L;replace e:i=M_ names.l ((Rk x).drop k) k q:=e;replace j:aa q=k:=j;refine Z1 ?_;refine Zi rfl (λp=>?_) (λp=>?_);have w:k<aa s.l:=zu p;have⟨y,b,N,h2,S,h4⟩:=ZI x k zo;rw[yy S]at e;have I:=Jm names.l y;have u:=Oe G B s names F y b (by have:=N.at J;rw[EE]at this;exact this) (N.ok O);rw[show(b:Int)+y.size-1=(k:Int) by omega]at u;refine Z1 ?_;refine GW @Yu B ?_ (s:=(u _ _));generalize Ux names.l y=v at e I⊢;refine Zs ?_;refine Z1 ?_;by_cases A:v=0;have C:(v==0)=ad:=zu A;rw[AF A]at e;refine Zi rfl (λa=>?_) (λa=>?_);refine Z ?_;rw[e]<;>rfl;rw[C]at a;cases a;have C:(v==0)=ab:=zu A;rw[AA A]at e;have P:IntKind.u8.wrap v=v:=by have:v=1\/v=2:=zo;rcases this with rfl|rfl<;>rfl
 refine Zi rfl (λa=>?_) (λa=>?_);rw[C]at a;cases a;refine Ym P ?_;intro U;refine Yg (f:=V.int .u8) (l:=q) (l2:=[v]) Jv rfl rfl rfl zp (Z3 zo zO) λW=>?_;refine Zs ?_;refine Z1 ?_;refine L _ ⟨w,(W,q++[v]),⟨e,by show aa (q++[v])=k+1;rw[BQ,j]<;>rfl⟩,AO zw zp⟩;have w:k=aa s.l:=by simp at p;omega
 refine Z0 ?_;rw[QC zo]at e;refine BM (Z4 (λo=>o==33) (l:=[(8,encKs .new q)]) (m:=[]) ?_ trivial) ?_;refine Zs ?_;exact Yp rfl rfl Jv;refine Z ?_;rw[e]<;>rfl
def iK(G)(t:Yy G)(c c1 s names)(x:s.l.length<1000000)(j:∀ n∈s.l,n.name.length<100000)(k:names.l.length<1000000):Spec () G 223 [Za c 6 Y9 s,Za c1 1 V.AB names] Zm (encO3 (Si names.l s.l)):=by
 refine Zo 0 27 _ func223 λX=>?_;have b:Si _ _=if(Wq _ _).2.2≠0 then(0,(Wq _ _).2.1,(Wq _ _).2.2)else((Wq _ _).1.getD (aa (Wq names.l s.l).1-1) 0,0,0):=rfl;have g:=λc c1=>AAr G t c c1 s _ x j k;have q:=dy (names:=names.l) (l:=s.l);generalize Si _ _=u at b⊢;generalize Wq _ s.l=p at b g q;have⟨d,i,e⟩:=p;simp only at b q;refine Z1 ?_;refine Z1 ?_;refine GW @Yu t ?_ (s:=(g _ _));refine Xc (j3 @encKr.eq_1 @encKs.eq_1 @dc) ?_;refine Z1 ?_;by_cases f:e=0
 rotate_left;have h:(e != 0)=ad:=zu f;rw[AF f]at b;refine Zi rfl (λa=>?_) (λa=>?_);refine Z ?_
 rw[b]<;>rfl;rw[h]at a;cases a;have h:=zu f;rw[AA (zu f)]at b;have⟨z,y⟩:=q f;refine Zi rfl (λa=>?_) (λa=>?_);rw[h]at a;cases a;refine Z0 ?_;obtain⟨m,A⟩:∃ m,aa d=m+1:=⟨aa d-1,zo⟩;have w:qN ((aa d:Int)-1)=(m:Int):=by rw[Xi zo zo];omega
 obtain⟨v,r⟩:∃ v,d[m]?=ae v:=⟨_,AY zo⟩;have o:d.getD (aa d-1) 0=v:=by rw[show aa d-1=m by omega,DK,r]<;>rfl
 rw[o]at b;refine Zf (zi w r) ?_;rw[b]<;>rfl
def fe(r:Int×Int):V:=.tuple [qI r.1,qI r.2]
def ACa{names l}(h:(Si names l).2.2≠0):(Si names l).1=0:=by unfold Si at h⊢;split;rfl;rename_i a;rw[AA a]at h;exact absurd rfl h
def dz{s}(h:Sp s=ad):s.AD=1\/s.AD=2:=by simp only[Sp,BP,F_,CX]at h;exact h.1.1
def pd(G)(z:Yy G)(c c1 c2 c3 s b d)(hA:VU s.l)(hv:b.l.length<100000)(hev:d.l.length<1000000):Spec () G 196 [Za c 3 (U8 c1) s,Za c2 1 V.AB b,Za c3 1 V.AB d] Zm (fe (M1 (s.l.map AM.v) b.l d.l)):=by
 refine Zo 0 86 _ func196 λX=>?_;have hs:=hA.len;have M:M1 _ _ d.l=if Th (s.l.map AM.v)≠0 then(0,2)else Ni b.l d.l ((s.l.map AM.v).drop 0) (0:Nat):=rfl;generalize M1 (s.l.map AM.v) b.l d.l=A at M⊢;have J:=λc=>rn G z c c1.ent s hA;have H:=@hU (s.l.map AM.v);have P:=iD (s.l.map AM.v);generalize Th (s.l.map AM.v)=ck at M J H P;refine Z1 ?_;refine Z1 ?_;refine GW @Ie z ?_ (s:=(J _));rcases P with rfl|rfl
 rotate_left;refine Zs ?_;refine Z ?_
 rw[M]<;>rfl;refine Zs ?_;refine Z0 ?_;obtain⟨_,L⟩:=H rfl;rw[AA zd]at M;refine Z1 ?_;intro g16;refine Z1 ?_;refine⟨Z3 zo zo,λg2=>?_⟩;have e1:1+aa b.l=aa (Pm::b.l):=by rw[CW];omega
 refine BM (Z4 (λo=>o==16) (l:=[(0,Za c 3 (U8 c1) s),(1,Za c2 1 V.AB b),(2,Za c3 1 V.AB d),(8,Za .new 1 V.AB (.mk ab (Pm::b.l)))]) (m:=[]) ?_ trivial) ?_;refine Zs ?_;refine⟨Zd,Zd,Zd,?_⟩;rw[e1];exact Xm (f:=V.AB) (l:=Pm::b.l) rfl zp Uq;generalize hNS:(Sl.mk ab (Pm::b.l):Sl bS)=F;have N:F.l=Pm::b.l:=by rw[<- hNS]<;>rfl
 have Y:=λc c1  x  h1 h2=>iK G z c c1 x F h1 h2 (by rw[N,CW];omega);have hcg:∀ x,Si F.l x=Si (b.l++[Pm]) x:=by intro x;rw[N];exact wK (λt=>AAn Pm b.l t) x
 refine Z1 ?_;refine BK ?_;refine Z8 [0,1,2,8] [] (aa s.l) (λk  _=>[(9,k)]) (λ_ _=>[]) (λk _=>Ni b.l d.l ((s.l.map AM.v).drop k) (k:Nat)=A) 0 () qz M.symm zp zp ?_;rintro k _ hk q L3 O;refine Z1 ?_;refine Zi rfl (λE=>?_) (λE=>?_);rotate_left;have n:k=aa s.l:=by have:=zN E;omega
 refine Z0 ?_;rw[QC (by rw[BC];omega)]at q;refine Z ?_;rw[<- q]<;>rfl;have n:=zL E;have w:=AY n;have D:=hA.row _ (BT n);have y:=L _ (TJ (f:=AM.v) (BT n));have hgv:(s.l.map AM.v)[k]?=ae (s.l[k]).v:=by rw[ED,w]<;>rfl
 rw[Cy hgv]at q;generalize s.l[k]=a at w D y q;have hkd:=dz y;have j:VN b.l d.l a.v=((if a.AD=2 then d.l.contains a.name else b.l.contains a.name)&&Na (b.l++[Pm]) a.x.l):=rfl;refine Z0 ?_;refine Zz ?_;refine BK ?_;refine Yt (fun(_:Unit)=>st [(0,Za c 3 (U8 c1) s),(1,Za c2 1 V.AB b),(2,Za c3 1 V.AB d),(8,Za .new 1 V.AB F),(9,k)] []) (λ_=>(if a.AD=2 then d.l.contains a.name else b.l.contains a.name)=ad) (λK6 p=>?_) ?_;rcases hkd with e|e
 .have e:a.AD=1:=e;have U:=zu e;have S:(a.AD==2)=ab:=by rw[e]<;>rfl
  rw[AA (by rw[e];decide)]at j p;refine Ym (j3 w @U2 U) ?_;refine Co @Ui z ?_ (s:=(Hf G z _ a.name b zo));cases u:b.l.contains a.name;rw[u,EG]at j;rw[AA (by rw[j];decide)]at q;refine Xc (j4 u w @U2 S) ?_;refine Z ?_;rw[<- q]<;>rfl;rw[u]at p;refine Xc (j4 u w @U2 S) ?_;refine Z0 ?_;exact p _ () rfl qs
 .have e:a.AD=2:=e;have U:(a.AD==1)=ab:=by rw[e]<;>rfl
  have S:=zu e;rw[AF e]at j p;refine Ym (j4 w @U2 U S) ?_;refine Co @Ui z ?_ (s:=(Hf G z _ a.name d hev));cases u:d.l.contains a.name;rw[u,EG]at j;rw[AA (by rw[j];decide)]at q;refine Xc u ?_;refine Z ?_;rw[<- q]<;>rfl;rw[u]at p;refine Xc u ?_;refine Z0 ?_;exact p _ () rfl qs
 intro _ hnm;rw[hnm,DJ]at j;have I:∀ (h:Na (b.l++[Pm]) a.x.l=ad),Ni b.l d.l ((s.l.map AM.v).drop (k+1)) (k+1:Nat)=A:=λh=>by rw[AF (by rw[j];exact h)]at q;exact q
 have K:∀ (h:Na (b.l++[Pm]) a.x.l=ab),((k:Int),(90:Int))=A:=λh=>by rw[AA (by rw[j,h];decide)]at q;exact q
 by_cases B:aa a.x.l=0;have i:Na (b.l++[Pm]) a.x.l=ad:=by unfold Na;rw[GL.1 B]<;>rfl
 have T:=zV ((aa a.x.l:Int)>0);refine Ym (j3 w @U2 T) ?_;refine Z1 ?_;exact O _ ⟨n,(),I i,AO zw zp⟩;have T:=zU ((aa a.x.l:Int)>0);have i:Na (b.l++[Pm]) a.x.l=((Si F.l a.x.l).1==1):=by unfold Na;rw[<- hcg];cases hq:a.x.l;rw[hq]at B;exact absurd rfl B;rfl
 refine Ym (j3 w @U2 T) ?_;refine Ym (zi w @U2) ?_;refine GW @Yu z ?_ (s:=(Y _ _ a.x D.2.1 D.2.2));have C:=@ACa F.l a.x.l;generalize Si F.l a.x.l=r at i C;obtain⟨W,i0,e0⟩:=r;simp only at i C;refine Xc @encO3.eq_1 ?_;by_cases he:e0=0
 rotate_left;have R:(e0==0)=ab:=zu he;rw[C he]at i;refine Wo zk ?_;simp -implicitDefEqProofs only[go_sem,seval,bne,R];refine Z ?_
 rw[<- K i]<;>rfl;have R:(e0==0)=ad:=zu he;cases Q:(W==1);rw[Q]at i;refine Wo zk ?_;simp -implicitDefEqProofs only[go_sem,seval,bne,R,Q];refine Z ?_;rw[<- K i]<;>rfl;rw[Q]at i;refine Wo zk ?_;simp -implicitDefEqProofs only[go_sem,seval,bne,R,Q];refine Z1 ?_;exact O _ ⟨n,(),I i,AO zw zp⟩
def Bm(G c s)(a:s.l.length<1000000):InSp ai G 86 [Za c 1 V.AB s] (Yb Zm [(5005,.AR)])
  (λv H'=>(s=.nil/\v=.AG/\H' 5005=.AR)\/(∃ g,v=.A_ 5005 g 0 s.l.length 1/\H' 5005=qC g 0 (flat (s.l.map V.AB)))):=by
 refine Wx 5000 8 [.tmp 2] func86 rfl rfl rfl rfl λX=>?_;simp only[Yb];rcases s with _|⟨b,l⟩;refine Z1 ?_;refine Zz ?_;simp only[Za];refine Z ?_;exact .inl (by first|rfl|exact⟨rfl,rfl,rfl⟩|exact ID);refine Z1 ?_;refine Zz ?_;have d:(Za c 1 _ (.mk b l))=.slice c b 1 (l.map V.AB):=rfl;rw[d];refine Z1 ?_;refine Z1 ?_;have f:aa l<1000000:=a;intro g;refine⟨Z3 zo (by rw[BC];omega),λe=>?_⟩;refine Z ?_;exact .inr ⟨e,by rw[BC],zr⟩
def AAP(G)(hE:CR G)(c c1 L M s b d)(hs:s.l.length<1000000)(hb:∀ a∈s.l,ON a)(hv:b.l.length<100000)(hev:d.l.length<1000000):Spec () G 208 [.agg [Za c 3 (U8 c1) s],Za L 1 V.AB b,Za M 1 V.AB d] Zm (fe (M1 (s.l.map AM.v) b.l d.l)):=by
 have Y:=hE.ok;refine Zo 0 57 _ func208 λX=>?_;have Q:M1 _ b.l d.l=if Th (s.l.map AM.v)≠0 then(0,2)else Ni b.l d.l ((s.l.map AM.v).drop 0) (0:Nat):=rfl;generalize M1 (s.l.map AM.v) b.l d.l=res at Q⊢;have O:=λc=>AAy G hE c c1.ent s hs hb;have N:=@hU (s.l.map AM.v);have U:=iD (s.l.map AM.v);generalize Th (s.l.map AM.v)=ck at Q O N U;refine Z1 ?_;intro g3;refine Z1 ?_;refine GW @Ie Y ?_ (s:=(O _));rcases U with rfl|rfl
 rotate_left;refine Zs ?_;refine Z ?_
 rw[Q]<;>rfl;refine Zs ?_;refine Z0 ?_;obtain⟨_,P⟩:=N rfl;rw[AA zd]at Q;have E:∀ (n:Sl bS),n.l=b.l++[Pm]->∀ x,Si n.l x=Si (b.l++[Pm]) x:=λn h x=>by rw[h]
 refine Yt (fun(n:Sl bS)=>st [(1,Za L 1 V.AB b),(2,Za M 1 V.AB d),(3,.ptr 3 g3 0),(8,Za .new 1 V.AB n)] [(3,qC g3 0 [Za c 3 (U8 c1) s])]) (λn=>n.l=b.l++[Pm]) (λK2 A=>?_) ?_;refine Z1 ?_;refine HO [(5005,.AR)] zk ?_ ?_;intro p hp;rw[CP]at hp;subst hp;exact zp;refine(Bm G L b zo).mono ?_;rintro _ H' (⟨rfl,rfl,q⟩|⟨g5,rfl,q⟩);simp only[BI,BV,q];refine Zu ?_;intro g18;refine⟨Z3 zo zo,λh=>absurd h zd,λ_ K=>?_⟩;refine Zs ?_;refine A _ (.mk ab [Pm]) rfl (Z4 (λo=>o==19) ?_ ?_);refine Zs ?_;refine⟨Zd,Zd,Zd,?_⟩;exact Xm (l:=[Pm]) rfl zp Uq;simp only[Z2,Z5,CE];exact CQ rfl zp;simp only[BI,BV,q];refine Zu ?_;intro g18;have y:List.take (aa b.l*1) (flat (List.map V.AB b.l))++[V.AB [97,114,103]]=flat ((b.l++[Pm]).map V.AB):=by rw[HY (by rw[Ww Uq];exact BO _),DL,T0];rfl
 have e1:aa b.l+1=aa (b.l++[Pm]):=by rw[BQ]<;>rfl
 refine⟨Z3 zo zo,by rw[Ww Uq];exact BO _,CB _,λK=>?_⟩;rw[y];refine A _ (.mk ab (b.l++[Pm])) rfl (Z4 (λo=>o==5005) ?_ ?_);refine Zs ?_;refine⟨Zd,Zd,Zd,?_⟩;rw[e1];exact Xm (f:=V.AB) (l:=b.l++[Pm]) rfl zp Uq;simp only[Z2,Z5,CE];exact CQ rfl zp;intro n R;have hcg:=E n R;have hof:=λc c1 (x:Sl XN) (h1:aa x.l<1000000) h2=>ff G hE c c1 x n h1 h2 (by rw[R,BQ];show _+1<_;omega)
 try clear E
 refine Zk λK2 A=>?_;refine Z1 ?_;refine BK ?_;refine Z8 [1,2,8,21,22] [] (aa s.l) (λk (_:Unit)=>[(23,k)]) (λ_ _=>[]) (λk _=>Ni b.l d.l ((s.l.map AM.v).drop k) (k:Nat)=res) 0 () qz Q.symm zp zp ?_;rintro k _ hk u L3 hL3;refine Z1 ?_;refine Zz ?_;refine Zi rfl (λJ=>?_) (λJ=>?_);rotate_left;have t:k=aa s.l:=by have:=zN J;omega
 refine Z0 ?_;refine A _ ?_;rw[QC (by rw[BC];omega)]at u;refine Z ?_;rw[<- u]<;>rfl;have t:=zL J;have hg:=AY t;have I:=hb _ (BT t);have C:=P _ (TJ (f:=AM.v) (BT t));have hgv:(s.l.map AM.v)[k]?=ae (s.l[k]).v:=by rw[ED,hg]<;>rfl
 rw[Cy hgv]at u;generalize s.l[k]=a at hg I C u;have hkd:=dz C;have i:VN b.l d.l a.v=((if a.AD=2 then d.l.contains a.name else b.l.contains a.name)&&Na (b.l++[Pm]) a.x.l):=rfl;refine Ym (zi hg @U2) ?_;intro B;refine Z1 ?_;refine Yt (fun(F:Sl bS)=>st [(1,Za L 1 V.AB b),(2,Za M 1 V.AB d),(8,Za .new 1 V.AB n),(9,k),(10,.ptr 10 B 0),(11,Za (if a.AD=2 then M else L) 1 V.AB F),(21,Za c 3 (U8 c1) s),(22,aa s.l),(23,k)] [(10,qC B 0 [.int .u8 a.AD,a.name,Za c1 6 Y9 a.x])])
  (λF=>aa F.l<1000000/\F.l.contains a.name=(if a.AD=2 then d.l.contains a.name else b.l.contains a.name)) (λK6 z=>?_) ?_
 rcases hkd with e|e;have e:a.AD=1:=e;have q2:(a.AD==2)=ab:=by rw[e]<;>rfl
 rw[AA (by rw[e];decide),AA (by rw[e];decide)]at z;refine Ym q2 ?_;refine Z0 ?_;exact z _ b ⟨zo,rfl⟩ qs;have e:a.AD=2:=e;have q2:(a.AD==2)=ad:=zu e;rw[AF e,AF e]at z;refine Ym q2 ?_;refine Z1 ?_;exact z _ d ⟨hev,rfl⟩ qs;rintro F ⟨hNK,S⟩;generalize(if a.AD=2 then M else L)=cK;rw[<- S]at i;refine Z1 ?_;refine Yt (fun(j:Int)=>st [(1,Za L 1 V.AB b),(2,Za M 1 V.AB d),(8,Za .new 1 V.AB n),(9,k),(10,.ptr 10 B 0),(11,Za cK 1 V.AB F),(12,.int .u8 j),(21,Za c 3 (U8 c1) s),(22,aa s.l),(23,k)] [(10,qC B 0 [.int .u8 a.AD,a.name,Za c1 6 Y9 a.x])])
  (λj=>(j==1)=Na (b.l++[Pm]) a.x.l) (λK7 T=>?_) ?_
 by_cases H:aa a.x.l=0;have w:Na (b.l++[Pm]) a.x.l=ad:=by unfold Na;rw[GL.1 H]<;>rfl
 have q5:=zV ((aa a.x.l:Int)>0);refine Ym q5 ?_;refine Z0 ?_;exact T _ 1 (by rw[w]<;>rfl) qs;have q5:=zU ((aa a.x.l:Int)>0);have w:Na (b.l++[Pm]) a.x.l=((Si n.l a.x.l).1==1):=by unfold Na;rw[<- hcg];cases hq:a.x.l;rw[hq]at H;exact absurd rfl H;rfl
 refine Ym q5 ?_;refine Z1 ?_;refine GW @Yu Y ?_ (s:=(hof _ _ a.x I.l I.x));generalize Si n.l a.x.l=r at w;obtain⟨j,i0,e0⟩:=r;refine Xc @encO3.eq_1 ?_;exact T _ j w.symm qs;intro j D;cases W:(j==1);rw[<- D,W,EX]at i;rw[AA (by rw[i];decide)]at u;refine Wo zk ?_;simp -implicitDefEqProofs only[go_sem,seval,bne,W];refine Z ?_;rw[<- u]<;>rfl;rw[<- D,W,IX]at i;refine Wo zk ?_;simp -implicitDefEqProofs only[go_sem,seval,bne,W];refine Zc Y ?_ (s:=(Tx G Y _ a.name F hNK));cases q7:F.l.contains a.name;rw[q7]at i;rw[AA (by rw[i];decide)]at u;refine Z ?_;rw[<- u]<;>rfl;rw[q7]at i;rw[AF i]at u;refine Z1 ?_;exact hL3 _ ⟨t,(),u,AO zw zp⟩
def VO(s:EU):AM:=⟨s.AD,s.name,Zb s.x⟩
def ACy(s):(VO s).v=s:=by show EU.mk s.AD s.name (Zb s.x).l=s;rw[Zl]
def PL(l:List EU):Sl AM:=Zb (l.map VO)
def UN(l):(PL l).l=l.map VO:=Zl _
def iM(l):(PL l).l.map AM.v=l:=by rw[UN,EL];exact(FQ λs _=>ACy s).trans (List.map_id _)
def fa(c l):Za c 3 (R5 c) (Zb l)=Za c 3 (U8 c) (PL l):=by rcases l with _|⟨s,r⟩;rfl;show V.slice c _ 3 _=V.slice c _ 3 (((s::r).map VO).map (U8 c));rw[EL]<;>rfl
structure SB(s:EU):Prop where
 n:aa s.name<100000
 l:aa s.x<100000
 x:∀ n∈s.x,aa n.name<100000
structure NG(b:List EU):Prop where
 s:∀ s∈b,SB s
 k:aa b<=512
def NG.amb{l}(h:NG l):∀ a∈(PL l).l,ON a:=by intro a b;rw[UN]at b;obtain⟨s,c,rfl⟩:=CY.1 b;have:=h.s s c;exact⟨this.n,by show aa (Zb _).l<_;rw[Zl];have:=this.l;omega,by show ∀ n∈(Zb _).l,_;rw[Zl];exact this.x⟩
def NG.amok{l}(h:NG l):VU (PL l).l:=⟨by rw[UN,BC];have:=h.k;omega,λa b=>⟨(h.amb a b).n,(h.amb a b).l,(h.amb a b).x⟩⟩
def AAI{l}(c:FJ l):(Xt l).1.length<100000/\∀ n∈(Xt l).1,n.name.length<100000:=by have a:=((Vv l (aa l+1) 1 ⟨0,[],0⟩).ok ⟨CB _,BO _⟩);unfold Xt;split;exact⟨H3 _,λn b=>by cases b⟩;split;exact⟨H3 _,λn b=>by cases b⟩;have:=a.1;have:=a.2;have:=c.len;exact⟨by show aa (Yv _ _ _ _).2.BS<_;omega,Nc c⟩
def y3{l}(a:FJ l)(i):(X6 l i).length<100000:=by unfold X6;split;rename_i t h;exact a.BG t (DY h);exact H3 _
def UO{k nm}(h:nm.length<100000):SB ⟨k,nm,[]⟩:=⟨h,H3 _,λn a=>by cases a⟩
def pV{l}(b:FJ l)(k w d i):SB (Tn l k w d i).1:=by have a:=y3 b i;have c:=AAI (l:=l.drop (i+2)) ⟨TO (by rw[EJ];omega) b.len,λt h=>b.BG t (OW h)⟩;unfold Tn Ef Kw;split;exact UO (H3 _);split;exact UO a;split;exact UO a;split;exact UO a;exact⟨a,c.1,c.2⟩
def jM{l}(b:FJ l){n}:∀ f i acc,NG acc->NG (Mn l n f i acc).1
 |0,i,acc,h=>h|f+1,i,acc,h=>by rw[Mn];split;exact h;split;exact⟨λs a=>(by cases a),CB _⟩;rename_i c;split;exact⟨λs a=>(by cases a),CB _⟩;refine jM b f _ _ ⟨λs a=>?_,by rw[BQ,JI];have:=h.k;omega⟩;rcases DX.1 a with a|a;exact h.s s a;rw[CP.1 a];unfold Ud;split<;>exact pV b _ _ _ _
def ig{s}(a:s.length<=900):NG (Nd s).1:=by unfold Nd;split;exact⟨λs a=>(by cases a),CB _⟩;exact jM (J9 zo) _ _ _ ⟨λs a=>(by cases a),CB _⟩
def A8(G)(e:CR G)(s:bS)(f:s.length<100000):Spec () G 164 [s] Zm (Uy s):=by
 have g:=e.ok;refine Zo 0 26 _ func164 λX=>?_;rw[Uy];refine Z ?_;refine Zn g ?_ (s:=Rz G e s f);generalize Yr s=p;have⟨l,a,q⟩:=p;simp only[encTok,encTks];refine Zs ?_;cases c:(q==0);exact Zh c;have d:(((aa l:Nat):Int)==1)=(aa l==1):=by rw[FW,CX,CX];omega
 cases b:(aa l==1);rw[b]at d;exact Zh (j3 c d (@Zl Tk l));rw[b]at d;have h:=zu b;obtain⟨t,rfl⟩:∃ t,l=[t]:=LJ.1 h;exact Zh (zi c Wd)
def Yq(vs ev:List bS)(s:bS):Bool:=(Nd s).2.2==0&&(M1 (Nd s).1 vs ev).2==0
def Gi(G)(n:CR G)(b c d e m y vs)(s:bS)(A:s.length<=900)(z:vs.l.length<100000)(j:m.BF.l.length<1000000):Spec () G 169 [So b c d e m y vs,s] Zm (Yq vs.l m.BF.l s):=by have x:=n.ok;refine Zo 0 32 [.tmp 4] func169 λX=>?_;have f:=ig A;have g:=λc D C B=>AAP G n c D C B _ vs _ (by rw[UN,BC];have:=f.k;omega) f.amb z j;rw[iM]at g;have u:=AAf G n s zo;rw[Yq];generalize Nd s=p at g u f;have⟨l,a,q⟩:=p;simp only at g f;generalize M1 l _ m.BF.l=t at g;refine Z ?_;refine Zn x ?_ (s:=u);simp only[gK,UT,fa];refine Zs ?_;intro E;refine qF 5 [0,7] [] 5 (.agg [Za .new 3 (U8 .new) (PL l)]) ?_;cases r:(q==0);have h:(q != 0)=ad:=zu r;exact Zq h;have h:=zu r;refine Ym h ?_;refine H_ h ?_;refine Zz ?_;refine Zv ⟨λi=>if i=10 then .tuple [qI t.1,qI t.2]else .top,λ_=>.pure⟩ zk x zk zk ?_;refine Xc @Wn ?_;refine⟨⟨zk,by refine Zs ?_;exact(g _ _ _ _).mono (by rintro _ _ rfl;rfl)⟩,?_⟩;refine Z ?_;rw[DJ]
def ACz(x):∀ y∈(V.int .u8 x).cells,y.Im:=λy a=>by simp only[V.cells,BY,CL,CF]at a;rw[a];exact .int _ _
def Rd.u8{H o g n l}(h:H o=qC g 0 (flat (l.map (V.int .u8))))(a:l.length=n):Rd H (.A_ o g 0 n 1) (Za .old 1 (V.int .u8) (.mk ab l)):=by subst a;have:=LO (off:=0) (n:=aa l) h BE ACz BE zo;rw[HB,B_,NS]at this;exact this
abbrev HI:=@Rd.u8
def Qj(k x:Int):(Sl.mk ab [k]).l.contains x=(x==k):=by show[k].contains x=_;rw[JR,b8,DZ]
def UG(k j x:Int):(Sl.mk ab [k,j]).l.contains x=(x==k||x==j):=by show[k,j].contains x=_;rw[JR,JR,b8,DZ]
def Ch(n k):(((n:Nat):Int)==((k:Nat):Int))=(n==k):=by rw[FW,CX,CX];omega
def tf(G)(f:Yy G)(b c d e m a vs)(g:m.AE.l.length<1000000)(v:Int)(i:0<=v)(h:v<m.p.AN.length):Spec () G 89 [So b c d e m a vs,v] Zm (m.p.k3 v):=by refine Zo 0 17 _ func89 λX=>?_;rw[PM.k3];refine Z ?_;intro j;refine Zs ?_;refine EZ f [So b.ent c.ent d.ent e.ent m a vs,v,Za .old 1 (V.int .u8) (.mk ab [2,12])] zk ⟨Xg (Lv _ _ _ _ _ _ _) zp,Xg (.int _ _) rfl,HI zp rfl,AJ⟩ ?_;refine(Vk G f _ _ _ _ _ m a vs v i h _ zd).mono ?_;rintro _ _ rfl;refine⟨.bool _,?_⟩;rw[UG];cases q:(m.p.kd v==2||m.p.kd v==12);refine Zs ?_;exact Zr;refine Zs ?_;refine Zc f ?_ (s:=Qu G f _ _ _ _ m a vs g v);refine Z ?_;rw[CH,<- Ch]<;>rfl
def PM.Rt.wayAt{m:PM}(h:m.Rt):∀ t∈m.AE,(0<=t.AV/\t.AV<aa m.AN)/\(0<=t.target/\t.target<aa m.AN):=by
 intro t b;obtain⟨i,a,rfl⟩:=List.mem_iff_getElem.1 b;have:=h.SU i a;have e:m.wy (i:Int)=m.AE[i]:=by show m.AE.getD _ _=_;rw[DK,GZ,AY a]<;>rfl
 rw[e]at this;simp only[PM.wayB,PM.inV,BP,CM]at this;exact⟨this.1.1.1.1.1.1.1.1.1.2,this.1.1.1.1.1.1.1.1.2⟩
def PM.Rt.outR{m:PM}(h:m.Rt)(v):∀ u∈m.out v,0<=u/\u<m.AN.length:=by intro u a;obtain⟨t,b,rfl⟩:=CY.1 a;exact(h.wayAt t (IY.1 b).1).2
def PM.Rt.incR{m:PM}(h:m.Rt)(v):∀ u∈m.inc v,0<=u/\u<m.AN.length:=by intro u a;obtain⟨t,b,rfl⟩:=CY.1 a;exact(h.wayAt t (IY.1 b).1).1
def Fw(m:BR)(v):(m.p.out v).length<=m.AE.l.length:=by rw[gV,BC];exact IJ _ _
def kZ(m:BR)(v):(m.p.inc v).length<=m.AE.l.length:=by rw[kS,BC];exact IJ _ _
def R_(n k):decide (((n:Nat):Int)>((k:Nat):Int))=decide (k<n):=EB.2 zo
def F4{l:iS}{k}(h:decide (k<l.length)=ad):l≠[]:=by rintro rfl;simp at h
def tO(G)(a:Yy G)(b c d e m f vs)(r:m.p.Rt)(k:m.AE.l.length<1000000)(v:Int)(x:0<=v)(u:v<m.p.AN.length):Spec () G 90 [So b c d e m f vs,v] Zm (m.p.k4 v):=by refine Zo 0 31 _ func90 λX=>?_;rw[PM.k4];have o:=r.outR v;have t:=Fw m v;refine Z ?_;refine Zc a ?_ (s:=Qu G a _ _ _ _ m f vs k v);generalize m.p.out v=out at o t;refine Z ?_;intro y;refine Zs ?_;refine EZ a [So b.ent c.ent d.ent e.ent m f vs,v,Za .old 1 (V.int .u8) (.mk ab [6])] zk ⟨Xg (Lv _ _ _ _ _ _ _) zp,Xg (.int _ _) rfl,HI zp rfl,AJ⟩ ?_;refine(Vk G a _ _ _ _ _ m f vs v x u (.mk ab [6]) zd).mono ?_;rintro _ _ rfl;refine⟨.bool _,?_⟩;rw[Qj];cases q:(m.p.kd v==6);refine Zs ?_;exact Zr;refine Zs ?_;refine Zc a ?_ (s:=Ix G a _ _ _ _ m f vs k v);have g:((aa (m.p.inc v):Int)==1)=(aa (m.p.inc v)==1):=Ch _ 1;cases j:(aa (m.p.inc v)==1);rw[j]at g;exact Zh (zi g (@Zl Int (m.p.inc v)));rw[j]at g;have h:decide ((aa out:Int)>1)=decide (1<aa out):=R_ _ 1;cases i:decide (1<aa out);rw[i]at h;exact Zh (j4 g h (@Zl Int (m.p.inc v)) (@Zl Int out));rw[i]at h;refine Zg (j4 g h (@Zl Int (m.p.inc v)) (@Zl Int out)) ?_;have n:=Gh G a b.ent c.ent d.ent e.ent .old m f vs r (Zb out) (by rw[Zl];exact F4 i) (by rw[Zl];omega) (by rw[Zl];exact o);rw[Zl]at n;refine Zc a ?_ (s:=n);refine Z ?_;rfl
def Rd.i64{H o g n}{l:iS}(h:H o=qC g 0 (flat (l.map ())))(a:l.length=n):Rd H (.A_ o g 0 n 1) (Za .old 1 () (.mk ab l)):=by subst a;have:=LO (off:=0) (n:=aa l) h BE ZY BE zo;rw[HB,B_,NS]at this;exact this
def pX(G)(j:CR G)(b c d e m h vs)(f:vs.l=m.p.vn)(n:vs.l.length<100000)(g:m.BF.l.length<1000000)(t:Int)(v:0<=t)(u:t<m.p.AE.length)(i:(m.p.wy t).DT.length<=900):Spec () G 98 [So b c d e m h vs,t] Zm (m.p.k12 Yq t):=by have r:=j.ok;refine Zo 0 16 _ func98 λX=>?_;obtain⟨k,x,rfl,o,q,a⟩:=KL v u;rw[PM.k12,PM.body,a,<- f];rw[a]at i;refine Zf (j5 q o Z6 Wn Ya) ?_;refine Zc r ?_ (s:=Gi G j _ _ _ _ m h vs _ i n g);exact Zr
def pB(G)(o:CR G)(b c d e m a vs)(j:vs.l=m.p.vn)(t:vs.l.length<100000)(f:m.BF.l.length<1000000)(v:Int)(A:0<=v)(z:v<m.p.AN.length)(i:(m.p.vx v).entry.length<=900/\(m.p.vx v).exit.length<=900):Spec () G 99 [So b c d e m a vs,v] Zm (m.p.k13 Yq v):=by have g:=o.ok;refine Zo 0 36 _ func99 λX=>?_;rw[PM.k13,PM.body,PM.body,<- j];refine Z ?_;intro C;refine Zs ?_;refine EZ g [So b.ent c.ent d.ent e.ent m a vs,v,Za .old 1 (V.int .u8) (.mk ab [1])] zk ⟨Xg (Lv _ _ _ _ _ _ _) zp,Xg (.int _ _) rfl,HI zp rfl,AJ⟩ ?_;refine(Vk G g _ _ _ _ _ m a vs v A z (.mk ab [1]) zd).mono ?_;rintro _ _ rfl;refine⟨.bool _,?_⟩;rw[Qj];obtain⟨k,x,rfl,u,y,h⟩:=EH A z;rw[h]at i⊢;cases q:(m.p.kd k==1);refine Zs ?_;exact Zr;refine Zg (j5 y u Zp Wn Ya) ?_;refine Zc g ?_ (s:=Gi G o b.ent c.ent d.ent e.ent m a vs x.entry i.1 t f);have B:Yq vs.l m.p.BF x.p.entry=Yq vs.l m.BF.l x.entry:=rfl;have n:Yq vs.l m.p.BF x.p.exit=Yq vs.l m.BF.l x.exit:=rfl;rw[B,n];cases r:Yq vs.l m.BF.l x.entry;exact Zh r;refine Zg (j6 r y u Zp Wn Ya) ?_;refine Zc g ?_ (s:=Gi G o b.ent c.ent d.ent e.ent m a vs x.exit i.2 t f);exact Zr
def oc(G)(o:Yy G)(b c d e m a vs)(j:m.p.Rt)(t:Int)(y:0<=t)(u:t<m.p.AE.length):Spec () G 100 [So b c d e m a vs,t] Zm (m.p.k14 t):=by refine Zo 0 22 _ func100 λX=>?_;obtain⟨k,x,rfl,s,n,g⟩:=KL y u;have⟨⟨r,q⟩,t0,t1⟩:=j.wayAt x.p (DY (by show(m.AE.l.map _)[k]?=_;rw[ED,n]<;>rfl));rw[PM.k14,g];refine Zf (j5 n s Z6 Wn Ya) ?_;intro A;refine Zf Z6 ?_;intro z;refine Zs ?_;refine EZ o [So b.ent c.ent d.ent e.ent m a vs,Za .old 1 () (.mk ab [x.AV,x.target])] zk ⟨Xg (Lv b c d e m a vs) (N4 _ _ _ _ _ _ _ _),Rd.i64 (l:=[x.AV,x.target]) zp rfl,AJ⟩ ?_;refine(Gh G o _ _ _ _ _ m a vs j _ (by intro h;cases h) (by show 2<1000000;decide) (λv f=>?_)).mono ?_;have f:v∈[x.AV,x.target]:=f;simp only[BY,CL,CF]at f;rcases f with rfl|rfl;exact⟨r,q⟩;exact⟨t0,t1⟩;rintro _ _ rfl;refine⟨.bool _,?_⟩;refine Zs ?_;exact Zr
def rG(G)(g:Yy G)(b c d e m a vs)(v:m.p.Rt)(t:Int)(A:0<=t)(z:t<m.p.AE.length):Spec () G 95 [So b c d e m a vs,t] Zm (m.p.k9 t):=by refine Zo 0 30 _ func95 λX=>?_;obtain⟨k,x,rfl,y,s,h⟩:=KL A z;have⟨⟨o,n⟩,t0,t1⟩:=v.wayAt x.p (DY (by show(m.AE.l.map _)[k]?=_;rw[ED,s]<;>rfl));rw[PM.k9,h];have u:(aa x.p.C_==0&&x.p.after==0||m.p.kd x.p.AV==1)=((aa x.C_.l==0&&x.after==0)||m.p.kd _==1):=rfl;rw[u];refine Zf (j5 s y Z6 Wn Ya) ?_;intro B;have f:((aa x.C_.l:Int)==0)=(aa x.C_.l==0):=Ch _ 0;cases r:(aa x.C_.l==0);rw[r]at f;refine Zf (zi f Z6) ?_;intro j;refine Zs ?_;refine EZ g [So b.ent c.ent d.ent e.ent m a vs,x.AV,Za .old 1 (V.int .u8) (.mk ab [1])] zk ⟨Xg (Lv _ _ _ _ _ _ _) zp,Xg (.int _ _) rfl,HI zp rfl,AJ⟩ ?_;refine(Vk G g _ _ _ _ .old m a vs x.AV o n (.mk ab [1]) zd).mono ?_;rintro _ _ rfl;refine⟨.bool _,?_⟩;rw[Qj];refine Zs ?_;exact Zr;rw[r]at f;cases q:(x.after==0);refine Zf (j3 f q Z6) ?_;intro j;refine Zs ?_;refine EZ g [So b.ent c.ent d.ent e.ent m a vs,x.AV,Za .old 1 (V.int .u8) (.mk ab [1])] zk ⟨Xg (Lv _ _ _ _ _ _ _) zp,Xg (.int _ _) rfl,HI zp rfl,AJ⟩ ?_;refine(Vk G g _ _ _ _ .old m a vs x.AV o n (.mk ab [1]) zd).mono ?_;rintro _ _ rfl;refine⟨.bool _,?_⟩;rw[Qj];refine Zs ?_;exact Zr;exact Zq (j3 f q Z6)
def ug(G)(v:Yy G)(b c d e m o vs)(E:m.AL.l.length<1000000)(r:Int):Spec () G 87 [So b c d e m o vs,r] Zm (m.p.k1 r):=by
 refine Zo 0 34 _ func87 λX=>?_;have A:m.p.k1 r=(aa (m.AL.l.filter λx=>x.AD==3&&x.region==r)==1):=by show(aa ((m.AL.l.map _).filter _)==1)=_;rw[NP,BC]<;>rfl
 rw[A];simp only[Wn];refine Z ?_;refine Z8 [0,1,12,13] [] (aa m.AL.l) (λk  _=>[(5,qI (aa ((m.AL.l.take k).filter λx=>x.AD==3&&x.region==r))),(14,k)]) (λ_ _=>[]) (λ_ _=>True) 0 () qz trivial (Vw @Wn) zp ?_;intro k _ F _ I a;by_cases f:k<aa m.AL.l;have g:=zU ((k:Int)<(aa m.AL.l:Int));have t:=AY f;have h:m.AL.l.take (k+1)=m.AL.l.take k++[m.AL.l[k]]:=by rw[DO f]
 have z:aa ((m.AL.l.take k).filter λx=>x.AD==3&&x.region==r)<=k:=CT (IJ _ _) (by rw[CZ];omega);generalize m.AL.l[k]=x at t h;rw[h,HH,BQ]at a;generalize aa ((m.AL.l.take k).filter λx=>x.AD==3&&x.region==r)=n at z a;have j:=wQ ((k:Int)+1);have y:=wQ ((n:Int)+1);have C:=DS k;have B:(k:Int)<aa m.p.AN:=by rw[m.nv];omega
 have s:m.p.kd (k:Int)=x.AD:=by rw[PM.kd,Rj t]<;>rfl
 refine Zf (j3 g t Zp) ?_;intro H;refine Z ?_;intro D;refine Zs ?_;refine EZ v [So b.ent c.ent d.ent e.ent m o vs,k,Za .old 1 (V.int .u8) (.mk ab [3])] zk ⟨Xg (Lv _ _ _ _ _ _ _) zp,Xg (.int _ _) rfl,HI zp rfl,AJ⟩ ?_;refine(Vk G v _ _ _ _ .old m o vs k C B (.mk ab [3]) zd).mono ?_;rintro _ _ rfl;refine⟨.bool _,?_⟩;rw[Qj,s];cases u:(x.AD==3);rw[JG (by simp[u])]at a;simp only[G_,GT,GN]at a;refine Zs ?_;refine Zf j ?_;exact a _ ⟨f,(),AJ,AO zp zp⟩;cases i:(x.region==r);rw[JG (by simp[i])]at a;simp only[G_,GT,GN]at a;refine Zg (j3 i j Zp) ?_;exact a _ ⟨f,(),AJ,AO zp zp⟩;rw[KH (by simp[u,i])]at a;simp only[G_,CW,GT,EE]at a;refine Zg (j4 i j y Zp) ?_;exact a _ ⟨f,(),AJ,AO (by refine Zs ?_;exact⟨rfl,rfl⟩) zp⟩;have q:k=aa m.AL.l:=zo;subst q;rw[B_];have g:decide ((aa m.AL.l:Int)<(aa m.AL.l:Int))=ab:=zS;refine Zf g ?_;rw[<- Ch]<;>rfl
def pw(G)(j:Yy G)(b c d e m h vs)(v:m.p.Rt)(t:Int)(C:0<=t)(B:t<m.p.AE.length):Spec () G 97 [So b c d e m h vs,t] Zm (m.p.k11 t):=by
 refine Zo 0 45 _ func97 λX=>?_;obtain⟨k,x,rfl,A,y,n⟩:=KL C B;have⟨⟨r,o⟩,t0,t1⟩:=v.wayAt x.p (DY (by show(m.AE.l.map _)[k]?=_;rw[ED,y]<;>rfl));rw[PM.k11,n];have z:(if x.p.AD=3 then x.p.AV==x.p.target&&m.p.kd x.p.AV==1 else if x.p.AD=2 then m.p.kd x.p.AV==1&&m.p.inB x.p.target x.p.AV else ad) =
  (if x.AD=3 then x.AV==x.target&&m.p.kd _==1 else if x.AD=2 then m.p.kd x.AV==1&&m.p.inB x.target x.AV else ad):=rfl
 rw[z];refine Zf (j5 y A Z6 Wn Ya) ?_;intro F;by_cases a:x.AD=3;rw[AF a];have q:=zu a;cases g:(x.AV==x.target);exact Zq (j3 q g Z6);refine Zf (j3 q g Z6) ?_;intro E;refine Zs ?_;refine EZ j [So b.ent c.ent d.ent e.ent m h vs,x.AV,Za .old 1 (V.int .u8) (.mk ab [1])] zk ⟨Xg (Lv _ _ _ _ _ _ _) zp,Xg (.int _ _) rfl,HI zp rfl,AJ⟩ ?_;refine(Vk G j _ _ _ _ .old m h vs x.AV r o (.mk ab [1]) zd).mono ?_;rintro _ _ rfl;refine⟨.bool _,?_⟩;rw[Qj];refine Zs ?_;exact Zr;rw[AA a];have q:(x.AD==3)=ab:=zu a;by_cases f:x.AD=2;rw[AF f];have g:=zu f;refine Zf (j3 q g Z6) ?_;intro D;refine Zs ?_;refine EZ j [So b.ent c.ent d.ent e.ent m h vs,x.AV,Za .old 1 (V.int .u8) (.mk ab [1])] zk ⟨Xg (Lv _ _ _ _ _ _ _) zp,Xg (.int _ _) rfl,HI zp rfl,AJ⟩ ?_;refine(Vk G j _ _ _ _ .old m h vs x.AV r o (.mk ab [1]) zd).mono ?_;rintro _ _ rfl;refine⟨.bool _,?_⟩;rw[Qj];cases u:(m.p.kd x.AV==1);exact Zh u;refine Zg (zi u Z6) ?_;refine Zc j ?_ (s:=Ep G j b.ent c.ent d.ent e.ent m h vs v x.target x.AV t0 t1);exact Zr;rw[AA f];have g:(x.AD==2)=ab:=zu f;exact Zq (zi q g)
def oF(G)(o:Yy G)(b c d e m C vs)(E:m.p.Rt)(t:Int)(P:0<=t)(O:t<m.p.AE.length):Spec () G 101 [So b c d e m C vs,t] Zm (m.p.k15 t):=by
 refine Zo 0 65 _ func101 λX=>?_;obtain⟨k,x,rfl,N,J,D⟩:=KL P O;have⟨⟨A,v⟩,t0,t1⟩:=E.wayAt x.p (DY (by show(m.AE.l.map _)[k]?=_;rw[ED,J]<;>rfl));have⟨i,y,I,F,H,L⟩:=EH t0 t1;have⟨j,z,n,r,u,K⟩:=EH A v;rw[PM.k15,D,PM.kd,L,K];have I:x.target=(i:Int):=I;have n:x.AV=(j:Int):=n;have M:(if y.p.AD=10 then !(x.p.AV==y.p.of) && !m.p.inB x.p.AV y.p.of else if y.p.AD=11 then m.p.inB x.p.AV y.p.of && !(z.p.of==y.p.of)else ad) =
  (if y.AD=10 then !(x.AV==y.of) && !m.p.inB x.AV y.of else if y.AD=11 then m.p.inB x.AV y.of && !(z.of==y.of)else ad):=rfl
 rw[M];refine Zf (j5 J N Z6 Wn Ya) ?_;intro S;refine Pr (j7 I H F Z6 Zp Wn Ya) o ?_;intro R;by_cases f:y.AD=10;rw[AF f];have q:=zu f;cases g:(x.AV==y.of);have B:(x.AV != y.of)=ad:=by rw[bne,g]<;>rfl
 refine Zf (j4 q B Z6 Zp) ?_;refine Zc o ?_ (s:=Ep G o b.ent c.ent d.ent e.ent m C vs E x.AV y.of A v);exact Zr;have B:(x.AV != y.of)=ab:=by rw[bne,g]<;>rfl
 exact Zq (j4 q B Z6 Zp);rw[AA f];have q:(y.AD==10)=ab:=zu f;by_cases a:y.AD=11;rw[AF a];have g:(y.AD==11)=ad:=zu a;have h:=λb c d e=>Ep G o b c d e m C vs E x.AV y.of A v;rw[n]at h⊢;refine Ym (j3 q g n) ?_;refine Ym (j3 q g n) ?_;refine Ym (j3 q g n) ?_;refine H_ (j3 q g n) ?_;generalize m.p.inB (j:Int) y.of=Q at h⊢;refine Zz ?_;cases Q;refine Zv ⟨λi=>if i=5 then .bool ab else .top,λ_=>.pure⟩ zk o zk zk ?_;refine Xc (j7 n u r @Zp @Z6 @Wn Ya) ?_;refine⟨⟨zk,by refine Zs ?_;exact(h _ _ _ _).mono (by rintro _ _ rfl;rfl)⟩,?_⟩;exact Zr;refine Zv ⟨λi=>if i=5 then .bool ad else .top,λ_=>.pure⟩ zk o zk zk ?_;refine Xc (j7 n u r @Zp @Z6 @Wn Ya) ?_;refine⟨⟨zk,by refine Zs ?_;exact(h _ _ _ _).mono (by rintro _ _ rfl;rfl)⟩,?_⟩;exact Zr;rw[AA a];have g:(y.AD==11)=ab:=zu a;exact Zq (zi q g)
def ACS(n k):decide (((n:Nat):Int)<=((k:Nat):Int))=decide (n<=k):=EB.2 zo
def sX(G)(F:CR G)(b c d e m o vs)(D:m.AE.l.length<1000000)(C:∀ t∈m.AE.l,t.guard.length<100000)(v:Int)(L:0<=v)(K:v<m.p.AN.length):Spec () G 92 [So b c d e m o vs,v] Zm (m.p.k6 v):=by
 have j:=F.ok;refine Zo 0 53 _ func92 λX=>?_;have J:m.p.elses v=aa (m.AE.l.filter λt=>t.AV==v&&Uy t.guard):=by show aa ((m.AE.l.map _).filter _)=_;rw[NP,BC]<;>rfl
 rw[PM.k6,J];simp only[Wn];refine Z ?_;refine Z8 [0,1,12,13] [] (aa m.AE.l) (λk  _=>[(5,qI (aa ((m.AE.l.take k).filter λt=>t.AV==v&&Uy t.guard))),(14,k)]) (λ_ _=>[]) (λ_ _=>True) 0 () qz trivial (Vw @Wn) zp ?_;intro k _ O _ Q a;by_cases f:k<aa m.AE.l;have i:=zU ((k:Int)<(aa m.AE.l:Int));have E:=AY f;have u:m.AE.l.take (k+1)=m.AE.l.take k++[m.AE.l[k]]:=by rw[DO f]
 have r:=C m.AE.l[k] (BT f);have I:aa ((m.AE.l.take k).filter λt=>t.AV==v&&Uy t.guard)<=k:=CT (IJ _ _) (by rw[CZ];omega);generalize m.AE.l[k]=x at E u r;rw[u,HH,BQ]at a;generalize aa ((m.AE.l.take k).filter λt=>t.AV==v&&Uy t.guard)=n at I a;have A:=wQ ((k:Int)+1);have H:=wQ ((n:Int)+1);refine Zf (j3 i E Z6) ?_;intro P;cases h:(x.AV==v);rw[JG (by simp[h])]at a;simp only[G_,GT,GN]at a;refine Zf (j3 h A Z6) ?_;exact a _ ⟨f,(),AJ,AO (Vw @Wn) zp⟩;refine Zf (zi h Z6) ?_;refine Zc j ?_ (s:=A8 G F x.guard r);cases g:Uy x.guard;rw[JG (by simp[g])]at a;simp only[G_,GT,GN]at a;refine Zg (zi g A) ?_;exact a _ ⟨f,(),AJ,AO (Vw @Wn) zp⟩;rw[KH (by simp[h,g])]at a;simp only[G_,CW,GT,EE]at a;refine Zg (j3 g A H) ?_;exact a _ ⟨f,(),AJ,AO (by refine Xc @Wn ?_;exact⟨rfl,rfl⟩) zp⟩;have B:k=aa m.AE.l:=zo;subst B;rw[B_];have i:decide ((aa m.AE.l:Int)<(aa m.AE.l:Int))=ab:=zS;generalize aa (m.AE.l.filter λt=>t.AV==v&&Uy t.guard)=n;refine Zf i ?_;intro M;refine Zs ?_;refine EZ j [So b.ent c.ent d.ent e.ent m o vs,v,Za .old 1 (V.int .u8) (.mk ab [4,5])] zk ⟨Xg (Lv _ _ _ _ _ _ _) zp,Xg (.int _ _) rfl,HI zp rfl,AJ⟩ ?_;refine(Vk G j _ _ _ _ .old m o vs v L K (.mk ab [4,5]) zd).mono ?_;rintro _ _ rfl;refine⟨.bool _,?_⟩;rw[UG];cases q:(m.p.kd v==4||m.p.kd v==5);refine Zs ?_;exact Zr;refine Zs ?_;refine Zc j ?_ (s:=Ix G j _ _ _ _ m o vs D v);have z:decide ((aa (m.p.inc v):Int)>0)=decide (0<aa (m.p.inc v)):=R_ _ 0;cases h:decide (0<aa (m.p.inc v));rw[h]at z;exact Zh (zi z (@Zl Int (m.p.inc v)));rw[h]at z;refine Zg (zi z (@Zl Int (m.p.inc v))) ?_;refine Zc j ?_ (s:=Qu G j _ _ _ _ m o vs D v);have y:decide ((aa (m.p.out v):Int)>0)=decide (0<aa (m.p.out v)):=R_ _ 0;cases g:decide (0<aa (m.p.out v));rw[g]at y;exact Zh (zi y (@Zl Int (m.p.out v)));rw[g]at y;have N:decide ((n:Int)<=1)=decide (n<=1):=ACS _ 1;exact Zh (j3 y N (@Zl Int (m.p.out v)))
@[go_sem] def ADw(n ob c1 b c d e m a vs):Rx (ae (ab,n)) ob (.view c1 (So b c d e m a vs))=ae (So b c d e m a vs):=rfl
def vk(G)(f:Yy G)(i b c d e m a vs)(v:Int)(h:0<=v)(g:v<m.p.AN.length):Spec () G 163 [v,.view i (So b c d e m a vs)] Zm (λw _=>w=.bool (!(m.p.kd v==1))):=by refine Zo 0 9 _ func163 λX=>?_;refine Z ?_;intro j;refine Zs ?_;refine EZ f [So b.ent c.ent d.ent e.ent m a vs,v,Za .old 1 (V.int .u8) (.mk ab [1])] zk ⟨Xg (Lv _ _ _ _ _ _ _) zp,Xg (.int _ _) rfl,HI zp rfl,AJ⟩ ?_;refine(Vk G f _ _ _ _ _ m a vs v h g _ zd).mono ?_;rintro _ _ rfl;refine⟨.bool _,?_⟩;rw[Qj];refine Zs ?_;exact Zr
def uB(G)(r:Yy G)(c1 w b c d e m q vs s)(B:s.l.length<1000000)(A:∀ v∈s.l,0<=v/\v<m.p.AN.length):Spec () G 118 [Za c1 1 () s,.func (.func 163) [] [.view w (So b c d e m q vs)]] Zm (λv _=>v=qI (Oy (λu => !(m.p.kd u==1)) s.l)):=by
 refine Zo 0 19 [.tmp 4] func118 λX=>?_;refine Z ?_;refine Z8 [0,1,7] [] (aa s.l) (λk  _=>[(8,k)]) (λ_ _=>[]) (λk _=>∀ y∈s.l.take k,(!(m.p.kd y==1))=ab) 0 () qz zS zp zp ?_;intro k _ C h D j;by_cases f:k<aa s.l
 .have a:=zU ((k:Int)<(aa s.l:Int));have g:=AY f;have⟨o,n⟩:=A s.l[k] (BT f);generalize s.l[k]=x at g o n;refine Zf (zi a g) ?_;refine Zc r ?_ (s:=vk G r w.ent b.ent c.ent d.ent e.ent m q vs x o n);cases t:(!(m.p.kd x==1));have z:=wQ ((k:Int)+1);refine Zf z ?_;exact j _ ⟨f,(),V3 g h t,AO zp zp⟩;refine Z ?_;rw[Td g h t]
 have i:k=aa s.l:=zo;have a:=zV ((k:Int)<(aa s.l:Int));rw[i,B_]at h;refine Zf a ?_;rw[Te h]
def oD(G)(f:Yy G)(c1 g b c d e m a vs s)(h:s.l.length<1000000)(i:∀ v∈s.l,0<=v/\v<m.p.AN.length):Spec () G 58 [Za c1 1 () s,.func (.func 163) [] [.view g (So b c d e m a vs)]] Zm (λv _=>v=.bool (s.l.any λu => !(m.p.kd u==1))):=by refine Zo 0 9 [.tmp 4] func58 λX=>?_;refine Z ?_;refine Zc f ?_ (s:=uB G f _ _ _ _ _ _ m a vs s h i);refine Z ?_;rw[Mf]
def s5(G)(a:Yy G)(b c d e m f vs)(x:m.p.Rt)(r:m.AE.l.length<1000000)(v:Int)(C:0<=v)(B:v<m.p.AN.length):Spec () G 91 [So b c d e m f vs,v] Zm (m.p.k5 v):=by
 refine Zo 0 37 _ func91 λX=>?_;rw[PM.k5];have j:=x.incR v;have z:=kZ m v;refine Z ?_;intro E;refine qF 2 [1] [] 2 (So b c d e m f vs) ?_;refine Z ?_;refine Zc a ?_ (s:=Ix G a _ c.ent d.ent e.ent m f vs r v);generalize m.p.inc v=inc at j z;refine Z ?_;intro D;refine Zs ?_;refine EZ a [So b.ent c.ent d.ent e.ent m f vs,v,Za .old 1 (V.int .u8) (.mk ab [7])] zk ⟨Xg (Lv _ _ _ _ _ _ _) zp,Xg (.int _ _) rfl,HI zp rfl,AJ⟩ ?_;refine(Vk G a _ _ _ _ .old m f vs v C B (.mk ab [7]) zd).mono ?_;rintro _ _ rfl;refine⟨.bool _,?_⟩;rw[Qj];cases q:(m.p.kd v==7);exact Zh q;refine Zg q ?_;refine Zc a ?_ (s:=Qu G a b.ent c.ent d.ent e.ent m f vs r v);have g:((aa (m.p.out v):Int)==1)=(aa (m.p.out v)==1):=Ch _ 1;cases n:(aa (m.p.out v)==1);rw[n]at g;exact Zh (zi g (@Zl Int (m.p.out v)));rw[n]at g;have h:decide ((aa inc:Int)>1)=decide (1<aa inc):=R_ _ 1;cases i:decide (1<aa inc);rw[i]at h;exact Zh (j4 g h (@Zl Int (m.p.out v)) (@Zl Int inc));rw[i]at h;refine Zg (j4 g h (@Zl Int (m.p.out v)) (@Zl Int inc)) ?_;have y:=oD G a .old .old b.ent c.ent d.ent e.ent m f vs (Zb inc) (by rw[Zl];omega) (by rw[Zl];exact j);rw[Zl]at y;refine Zc a ?_ (s:=y);have A:(inc.all λu=>m.p.kd u==1) = !(inc.any λu => !(m.p.kd u==1)):=by rw[b7]
 rw[A];cases k:(inc.any λu => !(m.p.kd u==1));rotate_left;exact Zh k;refine Zg k ?_;have t:=Gh G a b.ent c.ent d.ent e.ent .old m f vs x (Zb inc) (by rw[Zl];exact F4 i) (by rw[Zl];omega) (by rw[Zl];exact j);rw[Zl]at t;refine Zc a ?_ (s:=t);exact Zr
def AA8(k j i x:Int):(Sl.mk ab [k,j,i]).l.contains x=(x==k||x==j||x==i):=by show[k,j,i].contains x=_;rw[JR,JR,JR,b8,DZ,Bool.or_assoc]
def Yh(names:List bS)(s:bS):Int:=(Sj s names).2.2
def qX(G)(z:CR G)(b c d e m f vs)(M:m.p.Rt)(C:f.l=m.p.vn++[Ts])(D:f.l.length<1000000)(t:Int)(P:0<=t)(O:t<m.p.AE.length)(g:(m.p.wy t).guard.length<100000):Spec () G 96 [So b c d e m f vs,t] Zm (m.p.k10 Yh t):=by
 have h:=z.ok;refine Zo 0 62 [.tmp 4] func96 λX=>?_;obtain⟨k,x,rfl,N,I,n⟩:=KL P O;have⟨⟨H,F⟩,t0,t1⟩:=M.wayAt x.p (DY (by show(m.AE.l.map FZ.p)[k]?=_;rw[ED,I]<;>rfl));rw[n]at g;have g:aa x.guard<100000:=g;rw[PM.k10,n,Yh,<- C];have L:(((m.p.kd x.p.AV==4||m.p.kd x.p.AV==5)&&Uy x.p.guard)||((Sj x.p.guard f.l).2.2==0&&(aa (Yr x.p.guard).1==0||m.p.kd x.p.AV==1||m.p.kd x.p.AV==4||m.p.kd x.p.AV==5))) =
  (((m.p.kd x.AV==4||m.p.kd x.AV==5)&&Uy x.guard)||((Sj x.guard f.l).2.2==0&&(aa (Yr x.guard).1==0||m.p.kd x.AV==1||m.p.kd x.AV==4||m.p.kd x.AV==5))):=rfl
 rw[L];refine Z1 ?_;refine Ym (j5 I N Z6 Wn Ya) ?_;intro U;refine Y2 (λo=>o==5) [0] [] (l:=[(5,qW (Xo d x))]) (m:=[]) ?_ trivial ?_;refine Xc @Wn ?_;exact CS zp zp;refine Yt (fun(_:Unit)=>st [(0,So b c d e m f vs),(5,qW (Xo d x))] []) (λ_=>((m.p.kd x.AV==4||m.p.kd x.AV==5)&&Uy x.guard)=ab) (λW y=>?_) ?_;refine Zf Z6 ?_;intro R;refine Zs ?_;refine EZ h [So b.ent c.ent d.ent e.ent m f vs,x.AV,Za .old 1 (V.int .u8) (.mk ab [4,5])] zk ⟨Xg (Lv _ _ _ _ _ _ _) zp,Xg (.int _ _) rfl,HI (l:=[4,5]) zp rfl,AJ⟩ ?_;refine(Vk G h _ _ _ _ .old m f vs x.AV H F (.mk ab [4,5]) zd).mono ?_;rintro _ _ rfl;refine⟨.bool _,?_⟩;rw[UG];cases q:(m.p.kd x.AV==4||m.p.kd x.AV==5);refine Zg q ?_;exact y _ () (by rw[q]<;>rfl) (AO (Vw @Z6) zp);refine Zg (zi q Z6) ?_;refine Zc h ?_ (s:=A8 G z x.guard g);cases j:Uy x.guard;refine Zg j ?_;exact y _ () (by rw[j,EX]) (AO (Vw @Z6) zp);exact Zh j;intro _ K;rw[K,CH];have u:=λE=>sa G z E x.guard f g D;generalize Sj x.guard f.l=p at u⊢;have r:∀ E,Spec () G 167 [x.guard,Za E 1 V.AB f] Zm (V.tuple [.agg [Za .new 6 Y9 (Zb p.1)],qI p.2.1,qI p.2.2]):=u;refine Zz ?_;refine Zv ⟨λi=>if i=6 then .tuple [.agg [Za .new 6 Y9 (Zb p.1)],qI p.2.1,qI p.2.2]else .top,λ_=>.pure⟩ zk h zk zk ?_;refine Xc (zi @Z6 @Wn) ?_;refine⟨⟨zk,by refine Zs ?_;exact(r _).mono (by rintro _ _ rfl;exact zm)⟩,?_⟩;intro S;have J:=Rz G z x.guard g;generalize Yr x.guard=T at J⊢;have⟨l,a,q⟩:=T;refine Zf Z6 ?_;refine Zn h ?_ (s:=J);simp only[encTok,encTks];refine Zs ?_;have A:((aa l:Int)==0)=(aa l==0):=Ch _ 0;cases B:(p.2.2==0);exact Zh B;cases j:(aa l==0);rotate_left;rw[j]at A;exact Zh (j3 B A (@Zl Tk l));rw[j]at A;refine Zg (j4 B A (@Zl Tk l) Z6) ?_;intro Q;refine Zs ?_;refine EZ h [So b.ent c.ent d.ent e.ent m f vs,x.AV,Za .old 1 (V.int .u8) (.mk ab [1,4,5])] zk ⟨Xg (Lv _ _ _ _ _ _ _) zp,Xg (.int _ _) rfl,HI (l:=[1,4,5]) zp rfl,AJ⟩ ?_;refine(Vk G h _ _ _ _ .old m f vs x.AV H F (.mk ab [1,4,5]) zd).mono ?_;rintro _ _ rfl;refine⟨.bool _,?_⟩;rw[AA8];refine Zs ?_;refine Z ?_;rw[DJ,CH]
def uL(G)(f:Yy G)(b c d e m a vs)(C:m.p.Rt)(A:m.AE.l.length<1000000)(v:Int)(r:0<=v)(o:v<m.p.AN.length):Spec () G 88 [So b c d e m a vs,v] Zm (m.p.k2 v):=by
 refine Zo 0 42 _ func88 λX=>?_;rw[PM.k2];have B:=C.outR v;have I:=Fw m v;refine Z ?_;refine Zc f ?_ (s:=Qu G f _ _ _ _ m a vs A v);generalize m.p.out v=out at B I;obtain⟨k,x,rfl,D,E,H⟩:=EH r o;rw[H];have t:x.p.region=x.region:=rfl;rw[t];refine Z0 ?_;refine Zz ?_;cases q:(m.p.kd k==3);refine Zv ⟨λi=>if i=3 then .bool ab else .top,λi=>if i=3 then .CO else .pure⟩ zk f zk zk ?_;refine Xc @Wn ?_;intro h;refine⟨BorC.of [So b.ent c.ent d.ent e.ent m a vs,k,Za .old 1 (V.int .u8) (.mk ab [3])] zk ⟨Xg (Lv b c d e m a vs) (N4 _ _ _ _ _ _ _ _),Xg (.int _ _) rfl,HI zp rfl,AJ⟩ ((Vk G f _ _ _ _ .old m a vs k r o (.mk ab [3]) zd).mono ?_),?_⟩;rintro _ _ rfl;exact⟨.bool _,by rw[Qj,q]⟩;exact Zr;cases z:(aa out==1);have K:((aa out:Int)==1)=ab:=(Ch _ 1).trans z;refine Zv ⟨λi=>if i=3 then .bool ad else .top,λi=>if i=3 then .CO else .pure⟩ zk f zk zk ?_;refine Xc (j3 @Wn @Zl K) ?_;intro h;refine⟨BorC.of [So b.ent c.ent d.ent e.ent m a vs,k,Za .old 1 (V.int .u8) (.mk ab [3])] zk ⟨Xg (Lv b c d e m a vs) (N4 _ _ _ _ _ _ _ _),Xg (.int _ _) rfl,HI zp rfl,AJ⟩ ((Vk G f _ _ _ _ .old m a vs k r o (.mk ab [3]) zd).mono ?_),?_⟩;rintro _ _ rfl;exact⟨.bool _,by rw[Qj,q]⟩;exact Zr;obtain⟨w,rfl⟩:∃ w,out=[w]:=LJ.1 (zu z);have⟨w0,F⟩:=B w (CP.2 rfl);have g:=λb c d e=>Em G f b c d e m a vs C w x.region w0 F;have u:[w].headD 0=w:=rfl;have n:Zb [w]=.mk ab [w]:=rfl;rw[u];cases y:m.p.withinB w x.region;rw[y]at g;refine Zv ⟨λi=>if i=3 then .bool ad else if i=23 then .bool ab else .top,λi=>if i=3 then .CO else .pure⟩ zk f zk zk ?_;refine Xc (j6 @Wn n E D @Zp Ya) ?_;intro h;refine⟨BorC.of [So b.ent c.ent d.ent e.ent m a vs,k,Za .old 1 (V.int .u8) (.mk ab [3])] zk ⟨Xg (Lv b c d e m a vs) (N4 _ _ _ _ _ _ _ _),Xg (.int _ _) rfl,HI (l:=[3]) zp rfl,AJ⟩ ((Vk G f _ _ _ _ .old m a vs k r o (.mk ab [3]) zd).mono ?_),⟨zk,by refine Zs ?_;exact(g _ _ _ _).mono (by rintro _ _ rfl;rfl)⟩,?_⟩;rintro _ _ rfl;exact⟨.bool _,by rw[Qj,q]⟩;exact Zr;rw[y]at g;have j:=λb c d e=>Ix G f b c d e m a vs A k;generalize m.p.inc k=inc at j⊢;have J:((aa inc:Int)==0)=(aa inc==0):=Ch _ 0;refine Zv ⟨λi=>if i=3 then .bool ad else if i=23 then .bool ad else if i=28 then qE (Zb inc)else .top,λi=>if i=3 then .CO else .pure⟩ zk f zk zk ?_;refine Xc (j7 @Wn n @Zl E D @Zp Ya) ?_;intro h;refine⟨BorC.of [So b.ent c.ent d.ent e.ent m a vs,k,Za .old 1 (V.int .u8) (.mk ab [3])] zk ⟨Xg (Lv b c d e m a vs) (N4 _ _ _ _ _ _ _ _),Xg (.int _ _) rfl,HI (l:=[3]) zp rfl,AJ⟩ ((Vk G f _ _ _ _ .old m a vs k r o (.mk ab [3]) zd).mono ?_),⟨zk,by refine Zs ?_;exact(g _ _ _ _).mono (by rintro _ _ rfl;rfl)⟩,⟨zk,by refine Zs ?_;exact(j _ _ _ _).mono (by rintro _ _ rfl;exact zm)⟩,?_⟩;rintro _ _ rfl;exact⟨.bool _,by rw[Qj,q]⟩;refine Z ?_
 first|rfl|(rw[J]<;>rfl)
def rf(G)(z:Yy G)(b c d e m I vs)(P:m.p.Rt)(hw:m.AE.l.length<1000000)(v:Int)(h0:0<=v)(h1:v<m.p.AN.length):Spec () G 94 [So b c d e m I vs,v] Zm (m.p.k8 v):=by
 refine Zo 0 67 _ func94 λX=>?_;rw[PM.k8];have S:=P.outR v;have hl:=Fw m v;have C:=λb c d e=>Qu G z b c d e m I vs hw v;have L:=P.toFB.pt h0 h1;generalize m.p.out v=out at S hl C;obtain⟨k,x,rfl,hk,hg,hx⟩:=EH h0 h1;rw[PM.kd,hx];rw[hx]at L;refine Z1 ?_;refine Z0 ?_;refine Zz ?_;refine Zv ⟨λi=>if i=10 then qE (Zb out)else .top,λ_=>.pure⟩ zk z zk zk ?_;refine Xc (j5 @Wn hg hk @Zp Ya) ?_;refine⟨⟨zk,by refine Zs ?_;exact(C _ _ _ _).mono (by rintro _ _ rfl;exact zm)⟩,?_⟩;intro g5;refine BM (Z4 (λo=>o==5) (l:=[(0,So b c d e m I vs),(5,qW (Y6 d x)),(6,qE (Zb out))]) (m:=[]) ?_ trivial) ?_;refine Xc @Wn ?_;exact⟨Zd,CS (v:=Y6 d x) zp zp,Zd⟩;have hp:(if x.p.AD=11 then aa out==1 && !m.p.inB (out.headD 0) x.p.of else if x.p.AD=10 then Tp [] (out.map (m.p.regU · x.p.of))&&decide (0<aa out)else ad) =
  (if x.AD=11 then aa out==1 && !m.p.inB (out.headD 0) x.of else if x.AD=10 then Tp [] (out.map (m.p.regU · x.of))&&decide (0<aa out)else ad):=rfl
 rw[hp];by_cases n:x.AD=11;rw[AF n];have q:(x.AD==11)=ad:=zu n;refine Ym Zp ?_;refine Ym q ?_;refine H_ q ?_;refine Zz ?_;cases H:(aa out==1);have e1:((aa out:Int)==1)=ab:=(Ch _ 1).trans H;refine Pr (zi @Zl e1) z ?_;exact Zr;obtain⟨w,rfl⟩:∃ w,out=[w]:=LJ.1 (zu H);obtain⟨w0,w1⟩:=S w (CP.2 rfl);have D:=λb c d e=>Ep G z b c d e m I vs P w x.of w0 w1;have U:[w].headD 0=w:=rfl;have M:Zb [w]=.mk ab [w]:=rfl;rw[U];generalize m.p.inB w x.of=bb at D⊢;cases bb;refine Zv ⟨λi=>if i=10 then .bool ab else .top,λ_=>.pure⟩ zk z zk zk ?_;refine Xc (zi M @Zp) ?_;refine⟨⟨zk,by refine Zs ?_;exact(D _ _ _ _).mono (by rintro _ _ rfl;rfl)⟩,?_⟩;exact Zr;refine Zv ⟨λi=>if i=10 then .bool ad else .top,λ_=>.pure⟩ zk z zk zk ?_;refine Xc (zi M @Zp) ?_;refine⟨⟨zk,by refine Zs ?_;exact(D _ _ _ _).mono (by rintro _ _ rfl;rfl)⟩,?_⟩;exact Zr;rw[AA n];have q:(x.AD==11)=ab:=zu n;by_cases a:x.AD=10
 rotate_left;rw[AA a];have H:(x.AD==10)=ab:=zu a;exact Zq (j3 q H Zp);rw[AF a];have H:(x.AD==10)=ad:=zu a
 have R:0<=x.of:=by rcases L with h|h;exact h.1;exact absurd (.inl a) h.2.2.2
 refine Zf (j3 q H Zp) ?_;refine Z8 [0,5,6,41,42] [] (aa out) (λj  g=>[(7,AZ 62 g 1 ((out.take j).map (m.p.regU · x.of))),(43,j)]) (λj g=>[(62,Z9 g (V.int .i64) ((out.take j).map (m.p.regU · x.of)))]) (λj _=>Tp [] (out.map (m.p.regU · x.of))=Tp ((out.take j).map (m.p.regU · x.of)) ((out.drop j).map (m.p.regU · x.of))) 0 0 qz rfl (Vw (zi @Zp (@Zl Int out))) zp ?_;intro j g hj u L3 A;by_cases t:j<aa out
 .have E:=zU ((j:Int)<(aa out:Int));have F:=AY t;have J:out.take (j+1)=out.take j++[out[j]]:=by rw[DO t]
  have O:out.drop j=out[j]::out.drop (j+1):=FL t;obtain⟨y0,y1⟩:=S out[j] (BT t);have Y:aa ((out.take j).map (m.p.regU · x.of))<=j:=by rw[BC,CZ];omega
  generalize out[j]=y at F J O y0 y1;have w2:=wQ ((j:Int)+1);rw[O,BI,Tp]at u;rw[J,DL,BI,BV]at A;generalize(out.take j).map (m.p.regU · x.of)=B at Y u A;have N:(Zb out).l[j]?=ae y:=by rw[Zl];exact F
  refine Zf (j7 E F N t (@Zl Int out) Zp Ya) ?_;refine Zc z ?_ (s:=En G z b.ent c.ent d.ent e.ent m I vs P y x.of y0 y1 R);generalize m.p.regU y x.of=r at u A;by_cases K:0<=r
  rotate_left;have Q:=zU (r<0);rw[u,GC K];exact Zh Q;have Q:=zV (r<0);rw[EI K,DJ]at u;refine Zg Q ?_;refine EZ z [Za .old 1 (V.int .i64) (Zb B),r] zk ⟨Ez zp BE ZY BE,Xg (.int _ _) rfl,AJ⟩ ?_;refine(Iv G z .old r (Zb B) (by rw[Zl];omega)).mono ?_;rintro _ _ rfl;rw[Zl];refine⟨.bool _,?_⟩;cases W:B.contains r;rotate_left;rw[W]at u;rw[u];exact Zh W;rw[W,PX,DJ]at u;refine Zs ?_;refine Z ?_;intro g61;refine Yg (f:=V.int .i64) (l:=B) (l2:=[r]) BE rfl rfl rfl zp (Z3 zo zO) λg2=>?_;refine Zs ?_;refine Zf w2 ?_;exact A _ ⟨t,g2,u,AO (Vw @Zp) zp⟩
 have T:j=aa out:=zo;subst T;rw[NN]at u;have E:decide ((aa out:Int)<(aa out:Int))=ab:=zS;rw[u];have e3:decide ((aa out:Int)>0)=decide (0<aa out):=R_ _ 0;refine Zf (j3 E (@Zl Int out) e3) ?_;rfl
def sH(G)(g:Yy G)(b c d e m C vs)(Q:m.p.Rt)(U:m.AE.l.length<1000000)(W:m.AL.l.length<1000000)(v:Int)(S:0<=v)(R:v<m.p.AN.length):Spec () G 93 [So b c d e m C vs,v] Zm (m.p.k7 v):=by
 refine Zo 0 77 _ func93 λX=>?_;have P:=Q.outR v;have hl:=Fw m v;have s:=λb c d e=>Qu G g b c d e m C vs U v;rw[PM.k7];refine Z ?_;intro g12;refine Zs ?_;refine EZ g [So b.ent c.ent d.ent e.ent m C vs,v,Za .old 1 (V.int .u8) (.mk ab [8,9])] zk ⟨Xg (Lv _ _ _ _ _ _ _) zp,Xg (.int _ _) rfl,HI zp rfl,AJ⟩ ?_;refine(Vk G g _ _ _ _ _ m C vs v S R _ zd).mono ?_;rintro _ _ rfl;refine⟨.bool _,?_⟩;rw[UG];cases q:(m.p.kd v==8||m.p.kd v==9);exact Zh q;generalize m.p.out v=out at P hl s;obtain⟨k,x,rfl,hk,hg,O⟩:=EH S R;have hP:m.p.twins k=aa (m.AL.l.filter λy=>y.AD==x.AD&&y.region==x.region):=by rw[PM.twins,PM.kd,O];show aa ((m.AL.l.map FK.p).filter _)=_;rw[NP,BC]<;>rfl
 rw[hP,O];have K:x.p.region=x.region:=rfl;rw[K];refine Xc q ?_;refine H_ q ?_;refine Zz ?_;refine Zv ⟨λi=>if i=10 then qE (Zb out)else .top,λ_=>.pure⟩ zk g zk zk ?_;refine Xc (j5 @Wn hg hk @Zp Ya) ?_;refine⟨⟨zk,by refine Zs ?_;exact(s _ _ _ _).mono (by rintro _ _ rfl;exact zm)⟩,?_⟩;intro g5;refine Y2 (λo=>o==5) [0,6] [] (l:=[(5,qW (Y6 d x))]) (m:=[]) ?_ trivial ?_;refine Xc @Wn ?_;exact CS (v:=Y6 d x) zp zp;refine Zf Wn ?_;refine Z8 [0,5,6,30,31] [] (aa m.AL.l) (λj  _=>[(7,qI (aa ((m.AL.l.take j).filter λy=>y.AD==x.AD&&y.region==x.region))),(32,j)]) (λ_ _=>[]) (λ_ _=>True) 0 () qz trivial (Vw (zi @Wn @Zp)) zp ?_;intro j _ hj _ L3 a;by_cases f:j<aa m.AL.l;have h:=zU ((j:Int)<(aa m.AL.l:Int));have F:=AY f;have D:m.AL.l.take (j+1)=m.AL.l.take j++[m.AL.l[j]]:=by rw[DO f]
 have hn:aa ((m.AL.l.take j).filter λy=>y.AD==x.AD&&y.region==x.region)<=j:=CT (IJ _ _) (by rw[CZ];omega);generalize m.AL.l[j]=y at F D;rw[D,HH,BQ]at a;generalize aa ((m.AL.l.take j).filter λy=>y.AD==x.AD&&y.region==x.region)=n at hn a;have B:=wQ ((j:Int)+1);have T:=wQ ((n:Int)+1);refine Zf (j3 h F Zp) ?_;intro g9;cases r:(y.AD==x.AD);rw[JG (by simp[r])]at a;simp only[G_,GT,GN]at a;refine Zf (j3 r B Zp) ?_;exact a _ ⟨f,(),AJ,AO (Vw @Zp) zp⟩;cases t:(y.region==x.region);rw[JG (by simp[t])]at a;simp only[G_,GT,GN]at a;refine Zf (j4 r t B Zp) ?_;exact a _ ⟨f,(),AJ,AO (Vw @Zp) zp⟩;rw[KH (by simp[r,t])]at a;simp only[G_,CW,GT,EE]at a;refine Zf (j5 r t B T Zp) ?_;exact a _ ⟨f,(),AJ,AO (by refine Xc @Zp ?_;exact⟨rfl,rfl⟩) zp⟩;have L:j=aa m.AL.l:=zo;subst L;rw[B_];have h:decide ((aa m.AL.l:Int)<(aa m.AL.l:Int))=ab:=zS;generalize aa (m.AL.l.filter λy=>y.AD==x.AD&&y.region==x.region)=n;refine Ym h ?_;refine H_ h ?_;refine Zz ?_;have A:((n:Int)==1)=(n==1):=Ch _ 1;have H:decide ((aa out:Int)<=1)=decide (aa out<=1):=EB.2 zo;have N:((aa out:Int)==0)=(aa out==0):=Ch _ 0;cases r:(x.region==0);rotate_left;have z:(x.region != 0)=ab:=by rw[bne,r]<;>rfl
 refine Zv ⟨λi=>.top,λ_=>.pure⟩ zk g zk zk ?_;refine Xc (j3 @Zp @Zl z) ?_;exact Zr;have z:(x.region != 0)=ad:=by rw[bne,r]<;>rfl
 cases t:(n==1);rw[t]at A;refine Zv ⟨λi=>.top,λ_=>.pure⟩ zk g zk zk ?_;refine Xc (j4 @Zp @Zl z A) ?_;exact Zr;rw[t]at A;cases J:decide (aa out<=1);rw[J]at H;refine Zv ⟨λi=>.top,λ_=>.pure⟩ zk g zk zk ?_;refine Xc (j5 @Zp @Zl z A H) ?_;exact Zr;rw[J]at H;cases I:(aa out==0);rotate_left;rw[I]at N;refine Zv ⟨λi=>.top,λ_=>.pure⟩ zk g zk zk ?_;refine Xc (j6 @Zp @Zl z A H N) ?_;exact Zr;rw[I]at N;have hle:aa out<=1:=zu J;have Y:¬aa out=0:=zu I;obtain⟨w,rfl⟩:∃ w,out=[w]:=LJ.1 zo;have⟨w0,B⟩:=P w (CP.2 rfl);have u:=λb c d e=>Em G g b c d e m C vs Q w x.region w0 B;have M:[w].headD 0=w:=rfl;have E:Zb [w]=.mk ab [w]:=rfl;rw[M];generalize m.p.withinB w x.region=bb at u⊢;cases bb;refine Zv ⟨λi=>if i=23 then .bool ab else .top,λ_=>.pure⟩ zk g zk zk ?_;refine Xc (j5 @Zp @Zl z A E) ?_;refine⟨⟨zk,by refine Zs ?_;exact(u _ _ _ _).mono (by rintro _ _ rfl;rfl)⟩,?_⟩;exact Zr;refine Zv ⟨λi=>if i=23 then .bool ad else .top,λ_=>.pure⟩ zk g zk zk ?_;refine Xc (j5 @Zp @Zl z A E) ?_;refine⟨⟨zk,by refine Zs ?_;exact(u _ _ _ _).mono (by rintro _ _ rfl;rfl)⟩,?_⟩;exact Zr
def Eo(G b c d e m l vs)(k:Nat):Spec () G 46 [So b c d e m l vs,k] Zm (m.p.places k):=by
 refine Zo 0 33 _ func46 λX=>?_;rw[PM.places,m.nv,m.nw];have f:=@Wn;by_cases i:k=1;rw[AF i];have q:((k:Int)==1)=ad:=by simp[i]
 exact Zq (zi q f);rw[AA i];have q:((k:Int)==1)=ab:=(Ch k 1).trans (zu i);by_cases h2:k<=8;rw[AF (.inl h2)];have a:=zU ((k:Int)<=8);exact Zq (j3 q a f);have a:=zV ((k:Int)<=8);by_cases g:k=13;rw[AF (.inr g)];have j:((k:Int)==13)=ad:=by simp[g]
 exact Zq (j4 q a j f);rw[AA (λh=>h.elim h2 g)];have j:((k:Int)==13)=ab:=(Ch k 13).trans (zu g);exact Zq (j4 q a j f)
def AA5(G)(J:Yy G)(c d m)(H:m.vars.l.length<=600):Spec () G 44 [Zw c d m] Zm (So .new c d .new m (.mk ab (m.p.vn++[Ts])) (Zb m.p.vn)):=by
 refine Zo 0 39 _ func44 λX=>?_;have b:m.p.vn=m.vars.l.map _:=rfl;have u:aa m.p.vn<=600:=by rw[b,BC];exact H
 simp only[Zj];refine Z ?_;intro P;refine Z ?_;intro t;refine Z ?_;refine Z8 [3,10,11] [] (aa m.vars.l) (λk  g=>[(12,k)]) (λk g=>[(8,qC t 0 [m.name,Za c 2 Yw m.vars,Za c 1 V.AB m.BF,Za c 2 Yw m.AU,Za c 8 (Y6 d) m.AL,Za c 8 (Xo d) m.AE,.AG,AZ 24 g 1 (m.p.vn.take k)]),(24,Z9 g V.AB (m.p.vn.take k))]) (λ_ _=>True) 0 0 qz trivial zp (by refine Zs ?_;exact⟨rfl,rfl⟩) ?_;intro k g O _ Q n;by_cases j:k<aa m.vars.l;have i:=zU ((k:Int)<(aa m.vars.l:Int));have E:=AY j;have z:k<aa m.p.vn:=by rw[b,BC];exact j
 have s:m.p.vn.take (k+1)=m.p.vn.take k++[(m.vars.l[k]).1]:=by rw[DO z];simp[b]
 have y:aa (m.p.vn.take k)=k:=by rw[CZ];omega
 generalize m.vars.l[k]=x at E s;have F:=wQ ((k:Int)+1);rw[s]at n;generalize m.p.vn.take k=C at y n;refine Zf (j3 i E Xj) ?_;intro K;refine ZT J ?_;intro L;refine Yg (f:=V.AB) (l:=C) (l2:=[x.1]) Uq rfl rfl rfl zp (Z3 zo zO) λM=>?_;refine Zs ?_;refine Zf F ?_;exact n _ ⟨j,M,AJ,AO zp zp⟩;have A:k=aa m.vars.l:=zo;subst A;rw[HY (by rw[b,BC];exact BO _)];have i:decide ((aa m.vars.l:Int)<(aa m.vars.l:Int))=ab:=zS;generalize m.p.vn=vn at u⊢;refine BM (Z4 (λo=>o==24) (l:=[(3,.ptr 8 t 0),(11,aa m.vars.l),(12,aa m.vars.l)]) (m:=[(8,qC t 0 [m.name,Za c 2 Yw m.vars,Za c 1 V.AB m.BF,Za c 2 Yw m.AU,Za c 8 (Y6 d) m.AL,Za c 8 (Xo d) m.AE,.AG,Za .new 1 V.AB (Zb vn)])]) ?_ ?_) ?_;refine Zs ?_;exact⟨Zd,Zd⟩;simp only[Z2,Z5,CE];exact D_ (cs:=[m.name,Za c 2 Yw m.vars,Za c 1 V.AB m.BF,Za c 2 Yw m.AU,Za c 8 (Y6 d) m.AL,Za c 8 (Xo d) m.AE,.AG,AZ 24 g 1 vn]) rfl zp ⟨Zd,Zd,Zd,Zd,Zd,Zd,Zd,Yp rfl zp Uq,AJ⟩;refine Zf i ?_;refine HO [(5005,.AR)] zk ?_ ?_;intro p D;rw[CP]at D;subst D;exact zp;refine(Bm G .new (Zb vn) (by rw[Zl];omega)).mono ?_;rintro _ R (⟨I,rfl,q⟩|⟨K,rfl,q⟩);have r:vn=[]:=by have:=BU Sl.l I;rwa [Zl]at this
 subst r;simp only[BI,BV,q];refine Zu ?_;intro B;refine⟨Z3 zo zo,λh=>absurd h zd,λ_ a=>?_⟩;refine Zs ?_;refine Y2 (λo=>o==35) [3] [] (l:=[]) (m:=[(8,qC t 0 [m.name,Za c 2 Yw m.vars,Za c 1 V.AB m.BF,Za c 2 Yw m.AU,Za c 8 (Y6 d) m.AL,Za c 8 (Xo d) m.AE,Za .new 1 V.AB (.mk ab [Ts]),Za .new 1 V.AB (Zb [])])]) trivial ?_ ?_;simp only[Z2,Z5,CE];exact D_ (cs:=[m.name,Za c 2 Yw m.vars,Za c 1 V.AB m.BF,Za c 2 Yw m.AU,Za c 8 (Y6 d) m.AL,Za c 8 (Xo d) m.AE,.A_ 35 a 0 (aa ([Ts])) 1,Za .new 1 V.AB (Zb [])]) rfl zp ⟨Zd,Zd,Zd,Zd,Zd,Zd,Xm (f:=V.AB) (l:=[Ts]) rfl zp Uq,Zd,AJ⟩;refine BM (Z4 (λo=>o==8) (l:=[(3,So .new c d .new m (.mk ab [Ts]) (Zb []))]) (m:=[]) ?_ trivial) ?_;refine Zs ?_;exact CS (v:=OA c d .new m (.mk ab [Ts]) (Zb [])) zp zp;exact Zr;simp only[BI,BV,q,Zl];refine Zu ?_;intro B;have e:List.take (aa vn*1) (flat (List.map V.AB vn))++[V.AB [97,114,103]]=flat ((vn++[Ts]).map V.AB):=by rw[HY (by rw[Ww Uq];exact BO _),DL,T0];rfl
 have N:aa vn+1=aa (vn++[Ts]):=by rw[BQ]<;>rfl
 refine⟨Z3 zo zo,by rw[Ww Uq];exact BO _,CB _,λa=>?_⟩;rw[e,N];refine Y2 (λo=>o==5005) [3] [] (l:=[]) (m:=[(8,qC t 0 [m.name,Za c 2 Yw m.vars,Za c 1 V.AB m.BF,Za c 2 Yw m.AU,Za c 8 (Y6 d) m.AL,Za c 8 (Xo d) m.AE,Za .new 1 V.AB (.mk ab (vn++[Ts])),Za .new 1 V.AB (Zb vn)])]) trivial ?_ ?_;simp only[Z2,Z5,CE];exact D_ (cs:=[m.name,Za c 2 Yw m.vars,Za c 1 V.AB m.BF,Za c 2 Yw m.AU,Za c 8 (Y6 d) m.AL,Za c 8 (Xo d) m.AE,.A_ 5005 a 0 (aa ((vn++[Ts]))) 1,Za .new 1 V.AB (Zb vn)]) rfl zp ⟨Zd,Zd,Zd,Zd,Zd,Zd,Xm (f:=V.AB) (l:=(vn++[Ts])) rfl zp Uq,Zd,AJ⟩;refine BM (Z4 (λo=>o==8) (l:=[(3,So .new c d .new m (.mk ab (vn++[Ts])) (Zb vn))]) (m:=[]) ?_ trivial) ?_;refine Zs ?_;exact CS (v:=OA c d .new m (.mk ab (vn++[Ts])) (Zb vn)) zp zp;exact Zr
def rF:Nat->FuncId
 |1=>87|2=>88|3=>89|4=>90|5=>91|6=>92|7=>93|8=>94|9=>95|10=>96|11=>97|12=>98|13=>99|14=>100|_=>101
def S8(k:Nat):V:=.func (.func (rF k)) [] []
def ruleFs:List V:=[.CN,S8 1,S8 2,S8 3,S8 4,S8 5,S8 6,S8 7,S8 8,S8 9,S8 10,S8 11,S8 12,S8 13,S8 14,S8 15]
def jk{k}(h:1<=k)(h2:k<=15):ruleFs[k]?=ae (S8 k)/\Yf ai (rF k)=ad:=by have a:k=1\/k=2\/k=3\/k=4\/k=5\/k=6\/k=7\/k=8\/k=9\/k=10\/k=11\/k=12\/k=13\/k=14\/k=15:=zo;rcases a with rfl|rfl|rfl|rfl|rfl|rfl|rfl|rfl|rfl|rfl|rfl|rfl|rfl|rfl|rfl<;>exact⟨rfl,zk⟩
@[go_sem] def ADP(g):ruleFs.map (V.recol g)=ruleFs:=rfl
def uo(G):Spec () G 45 [] Zm (V.agg ruleFs):=by refine Zo 0 2 [.cell 0 120] func45 λX=>?_;refine Z ?_;intro a;exact Zr
structure IQ(m:BR):Prop where
 ef:∀ t∈m.AE.l,aa t.DT<=900
 gu:∀ t∈m.AE.l,aa t.guard<=900
 en:∀ x∈m.AL.l,aa x.entry<=900/\aa x.exit<=900
def sN(G)(s:CR G)(b c d e m a vs)(y:EM m)(g:m.p.Rt)(u:IQ m)(r:a.l=m.p.vn++[Ts])(n:vs.l=m.p.vn)(k)(F:1<=k)(h2:k<=15)(t:Int)(t0:0<=t)(t1:t<m.p.places k):Spec () G (rF k) [So b c d e m a vs,t] Zm (m.p.keep Yq Yh k t):=by
 have f:=s.ok;have J:=y.nw;have I:=y.nx;have H:=y.ne;have C:aa m.p.vn<=600:=by show aa (m.vars.l.map _)<=_;rw[BC];exact y.nv
 have A:aa a.l<1000000:=by rw[r,BQ];show _+1<_;omega
 have q:aa vs.l<100000:=by rw[n];omega
 have i:t<aa m.p.AE->(aa (m.p.wy t).DT<=900/\aa (m.p.wy t).guard<100000):=λh=>by obtain⟨j,x,rfl,E,v,z⟩:=KL t0 h;rw[z];have:=u.gu x (DY v);exact⟨u.ef x (DY v),by show aa x.guard<_;omega⟩
 have o:t<aa m.p.AN->(aa (m.p.vx t).entry<=900/\aa (m.p.vx t).exit<=900):=λh=>by obtain⟨j,x,rfl,E,v,z⟩:=EH t0 h;rw[z];exact u.en x (DY v)
 have B:∀ t∈m.AE.l,aa t.guard<100000:=λt h=>by have:=u.gu t h;omega
 have D:k=1\/k=2\/k=3\/k=4\/k=5\/k=6\/k=7\/k=8\/k=9\/k=10\/k=11\/k=12\/k=13\/k=14\/k=15:=zo;rcases D with rfl|rfl|rfl|rfl|rfl|rfl|rfl|rfl|rfl|rfl|rfl|rfl|rfl|rfl|rfl;exact ug G f b c d e m a vs zo t;exact uL G f b c d e m a vs g zo t t0 t1;exact tf G f b c d e m a vs zo t t0 t1;exact tO G f b c d e m a vs g zo t t0 t1;exact s5 G f b c d e m a vs g zo t t0 t1;exact sX G s b c d e m a vs zo B t t0 t1;exact sH G f b c d e m a vs g zo zo t t0 t1;exact rf G f b c d e m a vs g zo t t0 t1;exact rG G f b c d e m a vs g t t0 t1;exact qX G s b c d e m a vs g r A t t0 t1 (i t1).2;exact pw G f b c d e m a vs g t t0 t1;exact pX G s b c d e m a vs n q zo t t0 t1 (i t1).1;exact pB G s b c d e m a vs n q zo t t0 t1 (o t1);exact oc G f b c d e m a vs g t t0 t1;exact oF G f b c d e m a vs g t t0 t1
def Pg(p:Nat×Int):V:=.agg [.int .u8 p.1,qI p.2]
def ABX(p):Pg p=.agg [.int .u8 p.1,qI p.2]:=rfl
def Ar(p):(Pg p).cells.length=2:=rfl
def PM.places_le(m:PM)(k):m.places k<=m.AU.length+m.AN.length+m.AE.length:=by rw[PM.places];split;omega;split<;>omega
def o5(G)(hE:CR G)(c d m)(A:EM m)(ht:m.p.Rt->IQ m):Spec () G 19 [Zw c d m] Zm (V.tuple [Za .new 2 Pg (Zb (m.p.checkW Yq Yh).1),qI (m.p.checkW Yq Yh).2]):=by
 have z:=hE.ok;refine Zo 0 49 _ func19 λX=>?_;rw[PM.checkW];have hr:=PM.right_er (m:=m.p);simp only[Zj];refine Z ?_;intro g1;refine qF 1 [2,3] [] 1 (Zw c d m) ?_;refine Zf Zj ?_;refine Zn z ?_ (s:=kl G hE _ d.ent m A);have C:=λh=>PM.rt_of (m:=m.p) h;generalize m.p.rightP=J at hr C;refine Zs ?_;by_cases h:J.2.2=0
 rotate_left;rw[AF h];have q:(J.2.2 != 0)=ad:=zu h;exact Zq q;rw[AA (λk=>k h)]
 have q:(J.2.2 != 0)=ab:=by simp[h]
 have hm:m.p.Rt:=C (hr.1 h);have hT:=ht hm;have Q:=A.nv;refine Zf (zi q Zj) ?_;refine Zc z ?_ (s:=AA5 G z c.ent d.ent m Q);refine Z ?_;refine Zc z ?_ (s:=uo G);refine Z ?_;have u:=λk=>m.p.places_le k;have b1:=A.nr;have b2:=A.nx;have b3:=A.nw;have u:∀ k,m.p.places k<=1800:=λk=>by have:=u k;have e1:aa m.p.AU=aa m.AU.l:=rfl;have e2:=m.nv;have e3:=m.nw;omega
 refine Wy 16 (λr  g=>st [(2,AZ 46 g 2 (m.p.badL Yq Yh (r-1))),(4,So .new c.ent.bk d.ent.bk .new m (.mk ab (m.p.vn++[Ts])) (Zb m.p.vn)),(19,.agg ruleFs),(20,r)] [(46,Z9 g Pg (m.p.badL Yq Yh (r-1)))])
  (λr _=>aa (m.p.badL Yq Yh (r-1))<=1800*r) 0 0 zd qz qs ?_
 intro r g hr1 hR L3 H;by_cases P:r<16
 rotate_left;obtain rfl:r=16:=zo;have E:decide (((16:Nat):Int)<16)=ab:=rfl;have e15:m.p.badL Yq Yh (16-1)=m.p.badL Yq Yh 15:=rfl;rw[e15];generalize m.p.badL Yq Yh 15=i;refine Y2 (λo=>o==46) [20] [] (l:=[(2,Za .new 2 Pg (Zb i))]) (m:=[]) ?_ trivial ?_;refine Zs ?_;exact Yp (l:=i) (f:=Pg) rfl zp Ar;exact Zr;have E:=zU ((r:Int)<16);have w1:=wQ ((r:Int)+1)
 have N:∃ f,ruleFs[r]?=ae f/\(1<=r->f=S8 r/\Yf ai (rF r)=ad):=by rcases MI r with n|n;subst n;exact⟨_,rfl,λh=>absurd h zd⟩;exact⟨_,(jk n zo).1,λ_=>⟨rfl,(jk n zo).2⟩⟩
 have⟨fv,S,T⟩:=N;have O:(r:Int)<16:=zo;refine Zf (j5 E S O @DS GV) ?_;have F:∀ a,aa (m.p.badAt Yq Yh r a)<=a:=λa=>PM.badAt_len r a;have hn:(if r=0 then 0 else m.p.places r)<=1800:=by split;exact CB _;exact u r
 have D:(m.p.badL Yq Yh (r-1))++(if r=0 then[]else m.p.badAt Yq Yh r (m.p.places r))=m.p.badL Yq Yh r:=by rcases MI r with n|n;subst n;rfl;rw[AA zo];obtain⟨r,rfl⟩:∃ r',r=r'+1:=⟨r-1,zo⟩;rw[PM.badL_succ]<;>rfl
 have W:∀ a,r≠0->m.p.badAt Yq Yh r (a+1)=m.p.badAt Yq Yh r a++(if m.p.keep Yq Yh r (a:Int)=ad then[]else[(r,(a:Int))]):=λa _=>PM.badAt_succ r a;have R:=λb c d e ns vs  h1  h2 h3=>sN G hE b c d e m ns vs A hm hT h1 h2 r h3 zo;generalize m.p.badL Yq Yh (r-1)=i at hR D;refine Wy (if r=0 then 0 else m.p.places r) (λa  g=>st [(2,AZ 46 g 2 (i++if r=0 then[]else m.p.badAt Yq Yh r a)),(4,So .new c.ent.bk d.ent.bk .new m (.mk ab (m.p.vn++[Ts])) (Zb m.p.vn)),(5,r),(6,fv),(7,a),(19,.agg ruleFs),(20,r)] [(46,Z9 g Pg (i++if r=0 then[]else m.p.badAt Yq Yh r a))])
  (λa _=>True) 0 g qz trivial (AO ?_ ?_) ?_
 have:(i++if r=0 then[]else m.p.badAt Yq Yh r 0)=i:=by split;exact DW _;exact DW _
 rw[this];exact zp;have:(i++if r=0 then[]else m.p.badAt Yq Yh r 0)=i:=by split;exact DW _;exact DW _
 rw[this];exact zp;intro a g ha _ L7 j;have L:IntKind.u8.wrap (r:Int)=(r:Int):=bR zo zo;by_cases t:a<(if r=0 then 0 else m.p.places r)
 rotate_left
 .have hae:a=(if r=0 then 0 else m.p.places r):=zo;have y:(i++if r=0 then[]else m.p.badAt Yq Yh r a)=m.p.badL Yq Yh (r+1-1):=by rw[TM,<- D,hae];split<;>rfl
  rw[y];have x:∀ s,Weak ⟨X,Zm,49,0,G,none,[],.plain⟩ s (st [(2,AZ 46 g 2 (m.p.badL Yq Yh (r+1-1))),(4,So .new c.ent.bk d.ent.bk .new m (.mk ab (m.p.vn++[Ts])) (Zb m.p.vn)),(19,.agg ruleFs),(20,qI (r+1:Nat))] [(46,Z9 g Pg (m.p.badL Yq Yh (r+1-1)))])->L3 s:=λs hs=>by
   refine H s ⟨P,g,?_,hs⟩;rw[<- y,BQ];have e2:aa (if r=0 then([]:List (Nat×Int))else m.p.badAt Yq Yh r a)<=1800:=by split;exact CB _;exact CT (F a) zo
   omega
  try clear H
  by_cases n:r=0;have B:=zV ((r:Int)>0);refine Zf (zi B w1) ?_;exact x _ qs;have B:=zU ((r:Int)>0);rw[AA n]at hae;have K:=zV ((a:Int)<(m.p.places r:Int));refine Zf B ?_;refine Zc z ?_ (s:=Eo G _ _ _ _ m _ _ r);refine Zg (zi K w1) ?_;exact x _ qs
 have n:r≠0:=λh=>by rw[AF h]at t;exact absurd t (FH _)
 rw[AA n]at t;have hpr:=u r;have B:=zU ((r:Int)>0);have K:=zU ((a:Int)<(m.p.places r:Int));have w2:=wQ ((a:Int)+1);obtain⟨rfl,U⟩:=T zo;simp only[AA n]at j⊢;rw[W a n]at j;have Y:=F a;generalize m.p.badAt Yq Yh r a=bl at j Y⊢;refine Zf B ?_;refine Zc z ?_ (s:=Eo G _ _ _ _ m _ _ r);refine Zg (zi K (show S8 r=.func (.func (rF r)) [] []from rfl)) ?_;have M:=λb c d e=>R b c d e (.mk ab (m.p.vn++[Ts])) (Zb m.p.vn) rfl (Zl _) zo a (DS a) zo;refine Zc z ?_ (e:=U) (s:=M _ _ _ _);cases I:m.p.keep Yq Yh r (a:Int);rw[I,AA zd,<- DH]at j;refine Zf (zi I L) ?_;intro g45;refine Yg (f:=Pg) (l:=i++bl) (l2:=[(r,(a:Int))]) Ar rfl rfl rfl zp (Z3 zo (by simp only[BQ,CW,GT];omega)) λg2=>?_;refine Zs ?_;refine Zf w2 ?_;exact j _ ⟨t,g2,AJ,AO (Vw (show V.func (.func (rF r)) [] []=S8 r from rfl)) zp⟩;rw[I,AF rfl,DW]at j;refine Zf (zi I w2) ?_;exact j _ ⟨t,g,AJ,AO (Vw (show V.func (.func (rF r)) [] []=S8 r from rfl)) zp⟩
@[go_sem] def AEN(g c s):(Za c 2 Pg s).recol g=Za (g c) 2 Pg s:=Xz g c 2 (λp=>by simp only[ABX,X9,BI,BV,Xr]) s
def AAQ(G v):Spec () G 22 [v,.AG] Zm (λ_ _=>True):=by refine Zo 0 71 [] func22 λX=>?_;have a:decide (((0:Nat):Int)<((0:Nat):Int))=ab:=rfl;refine Z ?_;refine Z8 [13] [] 0 (λi  _=>[(14,i)]) (λ_ _=>[]) (λ_ _=>True) 0 () qz trivial zp zp ?_;intro i _ b _ d c;obtain rfl:i=0:=Nat.le_zero.1 b;refine Z ?_;exact⟨_,rfl,AJ⟩
structure cZ(m:BR)(q:BB×iS):Prop where
 sn:q.1.BN≠[]
 s0:0<=PM.srcOf q.1/\PM.srcOf q.1<aa m.p.AN
 f0:0<=q.1.first/\q.1.first<aa m.p.AE
 el:aa q.1.AT<100000
 er:∀ e∈q.1.AT,e.1 = -1\/(0<=e.1/\e.1<aa m.p.AN)
 br:∀ e∈q.1.AT,∀ t∈e.2,0<=t/\t<aa m.p.AE
 bl:∀ e∈q.1.AT,aa e.2<100000
 fl:aa q.1.DE<400000
 fr:∀ t∈q.1.DE,0<=t/\t<aa m.p.AE
 rl:aa q.2<100000
 rr:∀ v∈q.2,0<=v/\v<aa m.p.AN
def xB(G)(j:Yy G)(i n b c d e f g m x)(k:EQ m.p x)(l:m.p.AE.length<=600)(a:m.p.DM)(q)(h:cZ m q):Spec () G 24 [Wt i q,.view n (Vn b c d e f g m x)] Zm (λw _=>w=.bool (!(m.p.rightS q.1 q.2))):=by refine Zo 0 8 _ func24 λX=>?_;refine Zf Xl ?_;intro o;refine Zf Xl ?_;refine S5 [Vn b c d e f g m x,Wt i q] ⟨Zd,Zd,AJ⟩ ?_;refine Zc j ?_ (s:=zW G j _ _ _ _ _ _ _ m _ (k.rc AH.ent) l a q h.sn h.s0.1 h.s0.2 h.f0.1 h.f0.2 h.el h.er h.br h.bl h.fl h.fr h.rl h.rr);exact Zr
def QZ(x:BL):x.noMp.noMp=x.noMp:=by cases x<;>rfl
def Bh{α}(g f)(l:List α):(Z9 g f l).noMp=Z9 g f l:=by cases l<;>rfl
def NY(w:List BB×Bool)(k:BB):List BB×Bool:=if aa w.1=4096 then(w.1,ad)else(w.1++[k],w.2)
def ZR(w:List BB×Bool):Option Code:=if w.2=ad then ae .ret else none
def de:∀ xs l,aa l<=4096->(Y4 (λw k=>((ZR (NY w k)).isNone,NY w k)) (l,ab) xs).2=if aa l+aa xs<=4096 then(l++xs,ab)else((l++xs).take 4096,ad)
 |[],l,h=>by rw[Y4];rw[AF (zu h),DW]
 |k::r,l,h=>by rw[Y4];by_cases e:aa l=4096;have a:NY (l,ab) k=(l,ad):=AF e;rw[a];rw[AA (by simp[ZR]),AA (by rw[CW];omega)];rw[NR zo,HY zo];have a:NY (l,ab) k=(l++[k],ab):=AA e;rw[a,AF (by rfl),de r _ zO];simp only[BQ,CW,GT,DH,cR];rw[show aa l+(0+1)+aa r=aa l+(aa r+1) by omega]
def wR(m g){L}(h:L≠[]):Z9 g Sk L=qC g 0 (Km L (Kn m L 0)):=by
 rw[X2 _ _ h];congr 1;rw[Km,lv,EL];congr 1;apply QD;simp
 .intro j h1 h2;have a:=zu h1;rw[FG,FG,LI];show Sk _=Sf _ (L.getD j Ht,Kn m L 0 j);rw[DK,AY a,Kn,AA (FH _)]
  try rfl
def mV(m L):Km L (Kn m L L.length)=flat ((L.map λs=>(s,m.reachL L s)).map (Wt .new)):=by
 rw[Km,lv,EL,EL];congr 1;apply QD;simp
 .intro j h1 h2;have a:=zu h1;rw[FG,FG,LI];show Sf _ (L.getD j Ht,Kn m L (aa L) j)=Wt _ _;have e:L.getD j Ht=L[j]:=by rw[DK,AY a]<;>rfl
  rw[Kn,AF a,e]
  try rfl
def P3(m:PM):aa m.withR=aa m.allL:=BC ..
def ACc(m)(h:m.p.DM):∀ q∈m.p.withR,cZ m q:=by intro q c;obtain⟨s,b,rfl⟩:=CY.1 c;have f:=m.p.allL_ok h s b;have g:=h.lw;have a:PM.srcOf s∈s.BN:=PM.headD_mem f.so;refine⟨f.so,f.IF _ a,f.first,?_,f.ar,f.br,λe d=>?_,?_,f.er,?_,m.p.reachL_rng _ s⟩;have:=f.el;show aa s.AT<_;omega;have:=f.bl e d;omega;have:=f.fl;show aa s.DE<_;omega;show aa (m.p.reachL _ s)<_;rw[PM.reachL,BC];have:=IJ (fun(v:Nat)=>(m.p.reachQ m.p.allL s).contains (v:Int)) (List.range (aa m.p.AN));rw[HV]at this;have:=h.lx;omega
def kq{α:Type}{p}:∀ {l:List α} {n},l.findIdx? p=ae n->∃ q,l[n]?=ae q/\l.find? p=ae q
 |[],n,h=>by cases h|a::r,n,h=>by
  rw[List.findIdx?_cons]at h;by_cases e:p a=ad;rw[AF e]at h;cases h;exact⟨a,rfl,by rw[cC e]⟩
  .rw[AA e]at h;rcases h2:r.findIdx? p with _|k;rw[h2]at h;cases h;rw[h2]at h;cases h;have⟨q,c,b⟩:=kq h2;exact⟨q,c,by rw[cB e];exact b⟩
def XL(G)(hE:CR G)(c d m)(hb:EM m)(ht:m.p.Rt->IQ m):Spec () G 8 [Zw c d m] Zm (V.tuple [Za .new 6 (Wt .new) (Zb (m.p.statP Yq Yh).1),qI (m.p.statP Yq Yh).2.1,qI (m.p.statP Yq Yh).2.2]):=by
 have F:=hE.ok;refine PG 2100 64 [.cell 2 42,.cell 3 3,.cell 4 32] func8 λX=>?_;simp only[Zj];refine Z ?_;intro g1 z y u;refine Y2 (λo=>o==2101) [2,3,4] [] (l:=[(1,qW (Zw c d m))]) (m:=[(2102,qC z 0 [.AG]),(2103,qC y 0 [qI 0]),(2104,qC u 0 [qI 0])]) ?_ ?_ ?_;refine Zs ?_;exact CS zp zp;simp only[Z2,Z5,CE];exact⟨DR rfl,DR rfl,DR rfl⟩;refine Zf Zj ?_;refine Zc F ?_ (s:=o5 G hE c.ent d.ent m hb ht);rw[PM.statP];generalize J:m.p.checkW Yq Yh=ck;obtain⟨fs,er⟩:=ck;by_cases h1:er≠0;rw[AF h1];have q1:(er != 0)=ad:=zu h1;refine Zf q1 ?_;refine U6 [(32,.ptr 2104 u 0,er)] ⟨λ_=>qI er,λj=>if j=0 then .keep else .pure⟩ zk F zk zk ?_;refine Zs ?_;exact Zr;rw[AA h1];obtain rfl:er=0:=VZ.1 h1;by_cases h2:fs≠[];rw[AF h2];have q2:decide ((aa fs:Int)>0)=ad:=by have:=JH.2 h2;rw[CM];omega
 have q3:aa (Zb fs).l=aa fs:=by rw[Zl]
 exact Zq (zi q2 q3);rw[AA h2];obtain rfl:fs=[]:=VZ.1 h2;have hr:m.p.rightP.2.2=0:=by by_cases q:m.p.rightP.2.2=0;exact q;rw[PM.checkW,AF q]at J;exact absurd (BU Prod.snd J) q
 have hbd:m.p.badL Yq Yh 15=[]:=by rw[PM.checkW,AA (by rw[hr];simp)]at J;exact BU Prod.fst J
 have rt:=PM.rt_of (PM.right_er.1 hr);have EV:=rt.EV hbd;have FC:=rt.FC;refine Z ?_;refine Zc F ?_ (s:=mi G hE c.ent d.ent m hb FC hr);refine Zf Zj ?_;intro g31 E;have N:EQ m.p ((Qm m.p).rc AH.bk):=(ACL m.p).rc _;refine BM (Z4 (λo=>o==2131) (l:=[(1,qW (Zw c d m)),(2,.ptr 2102 z 0),(3,.ptr 2103 y 0),(4,.ptr 2104 u 0),(8,.ptr 2108 E 0)]) (m:=[(2102,qC z 0 [.AG]),(2103,qC y 0 [qI 0]),(2104,qC u 0 [qI 0]),(2108,qC E 0 [Vn .new c d .new .new .new m ((Qm m.p).rc AH.bk)])]) ?_ ?_) ?_;refine Xc @Zj ?_;exact⟨Zd,Zd,Zd,Zd,Zd⟩;simp only[Z2,Z5,CE];refine⟨CQ rfl zp,CQ rfl zp,CQ rfl zp,D_ (c:=.new) (fz:=0) (cs:=[.ptr 2131 g31 0]) rfl zp ⟨?_,AJ⟩⟩;exact CS (v:=.agg [m.name,Za c 2 Yw m.vars,Za c 1 V.AB m.BF,Za c 2 Yw m.AU,Za c 8 (Y6 d) m.AL,Za c 8 (Xo d) m.AE,I5 .new .new .new ((Qm m.p).rc AH.bk)]) (c:=.new) (fz:=0) (g:=g31) rfl zp;refine Zf Zj ?_;refine Wy (aa m.AE.l) (λt (w:List BB×Nat)=>st [(1,qW (Zw c d m)),(2,.ptr 2102 z 0),(3,.ptr 2103 y 0),(4,.ptr 2104 u 0),(8,.ptr 2108 E 0),(34,aa m.AE.l),(35,t)] [(2102,qC z 0 [AZ 3000 w.2 6 w.1]),(2103,qC y 0 [qI 0]),(2104,qC u 0 [qI 0]),(2108,qC E 0 [Vn .new c d .new .new .new m ((Qm m.p).rc AH.bk)]),(3000,Z9 w.2 Sk w.1)])
  (λt w=>w.1=(List.range t).flatMap (fun(i:Nat)=>m.p.beginL i)/\aa w.1<=4096) 0 ([],0) qz ⟨rfl,zd⟩ (AO (by rw[Zj];exact zp) (Vw (zi @Qo @U1))) ?_
 rintro t ⟨l,g⟩ ht ⟨hl,I⟩ L1 hL1;simp only at hl I;by_cases ht1:t<aa m.AE.l;have A:=zU ((t:Int)<(aa m.AE.l:Int));refine Ym A ?_;refine Ym A ?_;refine Ym A ?_;refine HO [(1004,.AR),(1005,.AR),(1006,.AR),(1007,.AR),(1009,.AR)] zk ?_ ((y8 G F .new c d .new .new .new m _ N (by rw[m.nw];exact hb.nw) EV t zo (by rw[m.nw];omega)).mono ?_);intro p L;simp only[BY,CL,CF]at L;rcases L with rfl|rfl|rfl|rfl|rfl<;>rfl;rintro w H' ⟨fid,M,rfl,hen,hit⟩;refine Zu ?_;refine BK ?_;refine NF [1,2,3,4,8,34,35,40] [2102,2103,2104,2108,3000,1004,1005,1006,1007,1009] ?_;refine AW.range 50 2000 5000 2952 (fun(w:List BB×Bool) (H:A')=>aa w.1<=4096/\∃ g,if w.2=ad then H=Yb Zm [(2102,qC z 0 [.AG]),(2103,qC y 0 [qI 0]),(2104,qC u 0 [qI 3])]else H=Yb Zm [(2102,qC z 0 [AZ 3000 g 6 w.1]),(2103,qC y 0 [qI 0]),(2104,qC u 0 [qI 0]),(2108,qC E 0 [Vn .new c d .new .new .new m ((Qm m.p).rc AH.bk)]),(3000,Z9 g Sk w.1)]) NY ZR (λ_ _=>True) (l,ab) rfl hen (by exact λ_ h=>nomatch h) (λp L=>?_) (λ_=>rfl) zd zd
  (λl' r=>hit _ (Vw @QZ) (Vw @QZ) (Vw @QZ) (Vw @QZ) (Vw @QZ)) (λ_ _ _=>trivial) rfl ⟨I,g,?_⟩ (Mk rfl λ_ _ _=>trivial) ?_ ?_
 simp only[BY,CL,CF]at L;subst L;exact(by decide:41<64);rw[AA zS];refine Xc @Bh ?_;exact Xf _ _ _ rfl
 .rintro lp Y ⟨l2,b2⟩ k Hk _ hrd _ hjm ⟨C,g',a⟩;cases b2;rotate_left;cases hjm;rw[AA zS]at a;simp only at C;generalize Ye (Yi 2000 Hk) 5000 .AR=B at *;subst a;refine Zs ?_;refine CA zk ?_;refine Xc fF ?_;intro g10;refine Xc fF ?_;intro Zx hXZ _;refine BM (AO (l:=[(1,qW (Zw c d m)),(2,.ptr 2102 z 0),(3,.ptr 2103 y 0),(4,.ptr 2104 u 0),(8,.ptr 2108 E 0),(10,.ptr 2962 g10 0)]) (m:=[(2962,qC g10 0 (Sf .new (k,.AG)).cells),(2102,qC z 0 [AZ 3000 g' 6 l2]),(2103,qC y 0 [qI 0]),(2104,qC u 0 [qI 0]),(2108,qC E 0 [Vn .new c d .new .new .new m ((Qm m.p).rc AH.bk)]),(3000,Z9 g' Sk l2)]) zp (Vw @Q3)) ?_;by_cases e4:aa l2=4096;have e5:NY (l2,ab) k=(l2,ad):=AF e4;have q5:((aa l2:Int)==4096)=ad:=by rw[e4]<;>rfl
  refine Zf q5 ?_;refine NF [] [2102,2103,2104] ?_;refine FU ?_;refine⟨by rw[e5]<;>rfl,?_⟩;rw[e5];refine⟨zo,0,?_⟩;rw[AF rfl];refine Zs ?_;exact Xf _ _ _ rfl;have e5:NY (l2,ab) k=(l2++[k],ab):=AA e4;have q5:((aa l2:Int)==4096)=ab:=by rw[FD];omega
  refine AW.later ?_;refine Zf (zi q5 Q3) ?_;intro g47;refine Yg (f:=Sk) (l:=l2) (l2:=[k]) (g:=g') (λ_=>rfl) rfl rfl rfl zp (Z3 zo zO) λS=>?_;refine Zs ?_;refine⟨_,AO (l:=[]) (m:=[(2102,qC z 0 [AZ 3000 S 6 (l2++[k])]),(2103,qC y 0 [qI 0]),(2104,qC u 0 [qI 0]),(2108,qC E 0 [Vn .new c d .new .new .new m ((Qm m.p).rc AH.bk)]),(3000,Z9 S Sk (l2++[k]))]) zp zp,?_⟩;refine⟨by rw[e5]<;>rfl,?_⟩;rw[e5];refine⟨zO,S,?_⟩;rw[AA zS];refine Xc @Bh ?_;exact Xf _ _ _ rfl
 rintro H2 ⟨C,g',a⟩ hlow hol;have U:(List.range (t+1)).flatMap (fun(i:Nat)=>m.p.beginL i)=l++m.p.beginL t:=by rw[HW,HU,<- hl,FY,NQ,DW]
 rw[de _ _ I]at C a⊢;by_cases h3:aa l+aa (m.p.beginL t)<=4096;rw[AF h3]at C a⊢;rw[AA zS]at a;have w1:qN ((t:Int)+1)=(t:Int)+1:=Xi zo (by have:=hb.nw;omega);refine Zs ?_;refine BM (JA (l:=[(1,qW (Zw c d m)),(2,.ptr 2102 z 0),(3,.ptr 2103 y 0),(4,.ptr 2104 u 0),(8,.ptr 2108 E 0),(34,aa m.AE.l),(35,t)]) a zp) ?_;refine Zf w1 ?_;exact hL1 _ ⟨ht1,(l++m.p.beginL t,g'),⟨U.symm,C⟩,AO zp zp⟩;rw[AA h3]at C a⊢;rw[AF rfl]at a;have hlen:4096<aa m.p.allL:=by
  have e1:aa m.p.AE=(t+1)+(aa m.p.AE-(t+1)):=by rw[m.nw];omega
  rw[PM.allL,e1,WH,HU,BQ,U,BQ];omega
 rw[AF hlen];refine Zs ?_;refine BM (JA (l:=[(2,.ptr 2102 z 0),(3,.ptr 2103 y 0),(4,.ptr 2104 u 0)]) a zp) ?_;exact Zr
 .have hte:t=aa m.AE.l:=zo;have A:=zV ((aa m.AE.l:Int)<(aa m.AE.l:Int));have hL:l=m.p.allL:=by rw[hl,hte,PM.allL,m.nw]
  try clear hl
  subst hL;rw[hte,AA (PA.2 I)];refine Ym A ?_;refine Ym A ?_;have R:∀ {H:A'} {K:V->A'->Prop},H 3000=Z9 g Sk m.p.allL->(∀ v H',H'=Ye H 3000 (if m.p.allL=[]then .AR else qC g 0 (Km m.p.allL (Kn m.p m.p.allL (aa m.p.allL))))->K v H')->CallA ai G 22 [Vn .new c d .new .new .new m ((Qm m.p).rc AH.bk),AZ 3000 g 6 m.p.allL] H K:=by
   intro H K a hK;by_cases D:m.p.allL=[];rw[AF D]at hK;rw[D]at a⊢;refine GS F zk ?_;refine(show Spec () G 22 [_,.AG] Zm _ from ?_);exact(AAQ G _).mono λv _ _=>hK _ _ (Xf _ _ _ a).symm;rw[AA D]at hK;rw[Xs _ _ _ D];rw[wR m.p g D]at a;have T:=λs O=>m.p.allL_ok EV s O;refine HO [(3000,qC g 0 (Km m.p.allL (Kn m.p m.p.allL 0)))] zk ?_ ((AAg G F .new c d .new .new .new m _ N m.p.allL D zo (by have:=EV.lx;omega) (λs O=>by have:=(T s O).el;have:=EV.lw;omega) (λs O=>by have:=EV.lw;rcases(T s O).sn with h|h<;>omega) (λs O=>PM.DM.atok EV s O) g).mono ?_)
   intro p L;simp only[BY,CL,CF]at L;subst L;exact a;intro w H' e;refine hK _ _ ?_;simp -implicitDefEqProofs only[go_sem,seval,Yb,e]
  refine R zp λv H' a=>?_;subst a;refine Zs ?_;refine BM (Z4 (λo=>o==3000) (l:=[(1,qW (Zw c d m)),(2,.ptr 2102 z 0),(3,.ptr 2103 y 0),(4,.ptr 2104 u 0),(8,.ptr 2108 E 0)]) (m:=[(2102,qC z 0 [Za .new 6 (Wt .new) (Zb m.p.withR)]),(2103,qC y 0 [qI 0]),(2104,qC u 0 [qI 0]),(2108,qC E 0 [Vn .new c d .new .new .new m ((Qm m.p).rc AH.bk)])]) ?_ ?_) ?_;refine Zs ?_;exact⟨Zd,Zd,Zd,Zd,Zd⟩;simp only[Z2,Z5,CE];refine⟨D_ (c:=.new) (fz:=0) (cs:=[AZ 3000 g 6 m.p.allL]) rfl zp ⟨?_,AJ⟩,CQ rfl zp,CQ rfl zp,CQ rfl zp⟩;by_cases D:m.p.allL=[];have:m.p.withR=[]:=by rw[PM.withR,D]<;>rfl
  rw[this,D];exact Zd;have hn2:m.p.withR≠[]:=λh=>D (by have:=P3 m.p;rw[h]at this;exact GL.1 this.symm);have e9:Za .new 6 (Wt .new) (Zb m.p.withR)=.slice .new ab 6 (m.p.withR.map (Wt .new)):=by cases h:m.p.withR with|nil=>exact absurd h hn2|cons=>rfl
  rw[Xs _ _ _ D,e9,<- P3];refine Xm (f:=Wt .new) (l:=m.p.withR) (c:=.new) (fz:=0) rfl ?_ λ_=>rfl;rw[Ys,AA D,P3,mV]<;>rfl;refine Z1 ?_;have hq:=ACc m EV;have hnw:aa m.p.AE<=600:=by rw[m.nw];exact hb.nw
  have hwl:aa m.p.withR<1000000:=by rw[P3];omega
  refine W5 2108 [Za .new 6 (Wt .new) (Zb m.p.withR),.func (.func 24) [] [qW (Vn .new c d .new .new .new m ((Qm m.p).rc AH.bk))]] ⟨Zd,Fz.func ⟨CS (v:=Vn .new c d .new .new .new m ((Qm m.p).rc AH.bk)) (c:=.new) (fz:=0) zp zp,AJ⟩,AJ⟩ ?_;refine Zc F ?_ (ha:=by simp only[BI,BV,Xz AH.ent AH.new 6 (U7 AH.ent AH.new),V.recol,Xd,Sq]) (s:=tv G F AH.new.ent AH.new.ent 24 (λM=>∃ b1 b c d e f g x,EQ m.p x/\M=[.view b1 (Vn b c d e f g m x)]) (by
   rintro _ ⟨b1,b,c,d,e,f,g,x,N,rfl⟩;exact⟨_,_,_,_,_,_,_,_,N.rc _,by simp only[BI,BV,V.recol,Sq];rfl⟩) [.view AH.new.ent (Vn AH.new.ent c.ent d.ent AH.new.ent AH.new.ent AH.new.ent m (((Qm m.p).rc AH.bk).rc AH.ent))] ⟨_,_,_,_,_,_,_,_,N.rc _,rfl⟩ zk (λq => !(m.p.rightS q.1 q.2)) (Zb m.p.withR) (by rw[Zl];exact hwl) (by
   rintro q W cr _ ⟨b1,b,c,d,e,f,g,x,N,rfl⟩;rw[Zl]at W;exact xB G F cr b1 b c d e f g m x N hnw EV q (hq q W)))
  unfold Oy;cases P:m.p.withR.findIdx? (λq => !(m.p.rightS q.1 q.2))with
  |none=>
   have Q:m.p.withR.find? (λq => !(m.p.rightS q.1 q.2))=none:=by rw[WC]at P;exact MG.2 λq hq=>by simpa using P q hq
   rw[Q];have q8:decide ((-1:Int)>=0)=ab:=rfl;refine Zg q8 ?_;rfl
  |some n=>obtain⟨q,hgq,Q⟩:=kq P;rw[Q];have q8:=zU ((n:Int)>=0);have hnl:=(DG.1 hgq).1;refine Zg q8 ?_;refine Zv ⟨λ_=>qI q.1.first,λj=>if j=4 then .CO else .pure⟩ zk F zk zk ?_;refine Xc (j4 hgq hnl Xl Ya) ?_;exact Zr
def Rp(G)(r:Yy G)(c c1)(a b:Sl Int)(h:a.l=b.l)(ha:a.l.length<=1000000):Spec () G 10 [Za c 1 () a,Za c1 1 () b] Zm ad:=by
 refine Zo 0 26 _ func10 λX=>?_;have q:((aa a.l:Int) != (aa b.l:Int))=ab:=by rw[h];simp
 refine Zf q ?_;refine Z8 [0,1] [] (aa a.l) (λk  _=>[(5,k)]) (λ_ _=>[]) (λ_ _=>True) 0 () qz trivial zp zp ?_;intro k _ s _ t m;by_cases e:k<aa a.l;have d:=zU ((k:Int)<(aa a.l:Int));have j:=AY e;generalize a.l[k]=p at j;have i:b.l[k]?=ae p:=by rw[<- h];exact j
 have g:k<aa b.l:=by rw[<- h];exact e
 have n:=wQ ((k:Int)+1);have o:(p != p)=ab:=zS;refine Ym d ?_;refine Pr (j6 o j i e g Ya) r ?_;refine Zf n ?_;exact m _ ⟨e,(),AJ,AO zp zp⟩;have f:k=aa a.l:=zo;have d:=zV ((k:Int)<(aa a.l:Int));rw[f]at d⊢;exact Zq d
@[go_sem] def AEM(g c c1 s):(Za c 6 (Wt c1) s).recol g=Za (g c) 6 (Wt (g c1)) s:=Xz g c 6 (U7 g c1) s
structure WQ where
 so:Sl Int
 fi:Int
 gu:Sl Int
 ef:Sl Int
 en:Sl (Int×Sl Int)
 re:Sl Int
 tw:Bool
def V6(c:AH)(e:Int×Sl Int):V:=.agg [qI e.1,Za c 1 () e.2]
def Q4(c e):V6 c e=.agg [qI e.1,Za c 1 () e.2]:=rfl
def Hb(c:AH)(r:WQ):V:=.agg [Za c 1 () r.so,r.fi,Za c 1 () r.gu,Za c 1 () r.ef,Za c 2 (V6 c) r.en,Za c 1 () r.re,r.tw]
def Eh(c r):Hb c r=.agg [Za c 1 () r.so,r.fi,Za c 1 () r.gu,Za c 1 () r.ef,Za c 2 (V6 c) r.en,Za c 1 () r.re,r.tw]:=rfl
def ABR(g c e):(V6 c e).recol g=V6 (g c) e:=by simp only[Q4,X9,BI,BV,Xr,Xv]
@[go_sem] def x8(g c s):(Za c 2 (V6 c) s).recol g=Za (g c) 2 (V6 (g c)) s:=Xz g c 2 (λe=>by simp only[Q4,X9,BI,BV,Xr,Xv]) s
@[go_sem] def XA(g c r):(Hb c r).recol g=Hb (g c) r:=by simp only[Eh,X9,BI,BV,Xr,Xv,x8,M9]
structure ca(q:BB×iS)(r:WQ):Prop where
 so:q.1.BN=r.so.l
 fi:q.1.first=r.fi
 gu:q.1.DU=r.gu.l
 ef:q.1.DE=r.ef.l
 en:q.1.AT=r.en.l.map λe=>(e.1,e.2.l)
 re:q.2=r.re.l
structure cb(q:BB×iS):Prop where
 so:aa q.1.BN<=1000000
 gu:aa q.1.DU<=1000000
 ef:aa q.1.DE<=1000000
 en:aa q.1.AT<=1000000
 re:aa q.2<=1000000
 br:∀ e∈q.1.AT,aa e.2<=1000000
def A6(G)(j:Yy G)(c c1 q r)(h:ca q r)(n:cb q):Spec () G 9 [Wt c q,Hb c1 r] Zm ad:=by
 have p:=
  λc c1 l b e I=>Rp G j c c1 (Zb l) b (by rw[Zl];exact e) (by rw[Zl];exact I)
 refine Zo 0 88 _ func9 λX=>?_;refine Zf (zi Xl Eh) ?_;intro L K;have C:(q.1.first != r.fi)=ab:=by rw[h.fi];simp
 have f:Vf c _=Za c 2 (Uu c) (Zb q.1.AT):=rfl;have d:aa q.1.AT=aa r.en.l:=by rw[h.en,BC]
 have H:((aa q.1.AT:Int) != (aa r.en.l:Int))=ab:=by rw[d];simp
 have x:=j4 C H f Xl;refine Zf x ?_;refine Zc j ?_ (s:=p _ _ _ _ h.so n.so);refine Zg x ?_;refine Zc j ?_ (s:=p _ _ _ _ h.gu n.gu);refine Zg x ?_;refine Zc j ?_ (s:=p _ _ _ _ h.ef n.ef);refine Zg x ?_;refine Zc j ?_ (s:=p _ _ _ _ h.re n.re);have u:aa (Zb q.1.AT).l=aa r.en.l:=by rw[Zl];exact d
 have F:((aa r.en.l:Int) != (aa r.en.l:Int))=ab:=zS;refine Xc (j4 d u F C) ?_;refine Y2 (λo=>o==2||o==3) [51] [] (l:=[(2,qW (Wt c q)),(3,qW (Hb c1 r))]) (m:=[]) ?_ trivial ?_;refine Zs ?_;exact⟨CS (v:=Wt c q) zp zp,CS (v:=Hb c1 r) zp zp⟩;refine Z ?_;refine Z8 [2,3] [] (aa r.en.l) (λk  _=>[(5,k)]) (λ_ _=>[]) (λ_ _=>True) 0 () qz trivial zp zp ?_;intro k _ J _ N A;by_cases a:k<aa r.en.l
 .have g:=zU ((k:Int)<(aa r.en.l:Int));have w:=AY a;generalize r.en.l[k]=e at w;have i:q.1.AT[k]?=ae (e.1,e.2.l):=by rw[h.en,ED,w]<;>rfl
  have t:k<aa q.1.AT:=by rw[d];exact a
  have y:=DY i;have E:qN ((k:Int)+1)=(k:Int)+1:=Xi zo (by have:=n.en;omega);have B:(e.1 != e.1)=ab:=zS;have D:=SD g u w i a t B f Xl Eh Ut Q4 Ya;refine Ym D ?_;refine H_ D ?_
  repeat first|refine BK ?_|refine Zz ?_
  refine Zv ⟨λ_=>.bool ad,λ_=>.pure⟩ zk j zk zk ?_;refine Xc (SD a t w i B f @Ut @Q4 @Xl @Eh u @GY @DS) ?_;refine⟨⟨zk,?_⟩,?_⟩;refine Zs ?_;exact zM (p _ _ _ _ rfl (n.br _ y));refine Zf E ?_;exact A _ ⟨a,(),AJ,AO (Vw (j3 @Xl @Eh f)) zp⟩
 have z:k=aa r.en.l:=zo;have g:=zV ((aa r.en.l:Int)<(aa r.en.l:Int));rw[z];have M:=u;refine Zf (j5 g u f Xl d) ?_;rfl
def SP(r:JW)(R:iS):WQ:=⟨Zb r.BN,r.first,Zb r.DU,Zb r.DE,Zb (r.AT.map λe=>(e.1,Zb e.2)),Zb R,r.EC⟩
def X8(c:AH)(r:JW):V:=Hb c (SP r [])
def Uf(c r):X8 c r=.agg [Za c 1 () (Zb r.BN),r.first,Za c 1 () (Zb r.DU),Za c 1 () (Zb r.DE),Za c 2 (V6 c) (Zb (r.AT.map λe=>(e.1,Zb e.2))),.AG,r.EC]:=rfl
@[go_sem] def AAY(g c r):(X8 c r).recol g=X8 (g c) r:=XA g c _
@[go_sem] def AEP(g c c1 s):(Za c 7 (X8 c1) s).recol g=Za (g c) 7 (X8 (g c1)) s:=Xz g c 7 (AAY g c1) s
def ND(so:iS)(fi:Int):JW:=⟨so,fi,[],[],[],ab⟩
def Fb(so:iS)(fi:Int)(DN:iS)(w:DI)(row:List DI):JW:=⟨so,fi,w.AP++row.flatMap (·.AP),DN++w.AP,PM.rowEnds row,row.any (·.EC)⟩
def Ge(row:List DI):List (Int×Sl Int):=row.map λw=>(w.BD,Zb w.AP)
def kf{m:PM}(h:m.DM){u}(a:m.IU u):u.AP.length<=513:=CT a.le (QO h.lw)
def ib{α β:Type}{f:α->List β}{n}:∀ {l:List α},(∀ a∈l,(f a).length<=n)->(l.flatMap f).length<=l.length*n
 |[],_=>zS|a::r,h=>by have:=ib (l:=r) λx b=>h x (by simp[b]);have:=h a zS;rw[FY,BQ,CW,MH];omega
def tT(G)(K:Yy G)(c d m)(D:m.p.DM)(b q w)(hw:m.p.IU w)(hpl:w.AP.length<=1000)(a)(hil:a.l.length<=512)(most:Nat)(hmo:most<100000):InSp ai G 38 [Zw c d m,X8 .new (ND b q),Ve .new w,qE a,most] Zm (Za .new 7 (X8 .new) (Zb (m.p.finX most b q a.l w))):=by
 have hlw:=D.lw;have hnw:=m.nw;have eP:(Zb _).l=w.AP:=Zl _;have W:∀ u,m.p.IU u->aa u.AP<=513:=λu hu=>kf D hu;refine Wx 0 _ _ func38 rfl rfl rfl rfl λX=>?_;refine Zf (j3 Zj Uf Wh) ?_;intro g5 A g7;refine BM (Z4 (λo=>o==5||o==7) (l:=[(3,qE a),(4,most),(5,qW (Zw c d m)),(6,.ptr 6 A 0),(7,qW (Ve .new w))]) (m:=[(6,qC A 0 [qE (Zb b),q,.AG,.AG,.AG,.AG,ab])]) ?_ ?_) ?_;simp -implicitDefEqProofs only[go_sem,seval];exact⟨Zd,Zd,CS zp (by rw[Zj];exact zp),Zd,CS zp zp⟩;simp only[Z2,Z5,CE];exact DR rfl;refine Zf Wh ?_;refine Zc K ?_ (s:=Hj G AH.new.ent AH.new.ent a (Zb w.AP) zo (by rw[eP];omega));refine BM (AO (l:=[(3,qE a),(4,most),(5,qW (Zw c d m)),(6,.ptr 6 A 0),(7,qW (Ve .new w))]) (m:=[(6,qC A 0 [qE (Zb b),q,qE (Zb w.AP),qE (Zb (a.l++w.AP)),.AG,.AG,ab])]) (zq (zi @Wh @Zj)) zp) ?_;rw[PM.finX];have J:=hw.BD;cases q1:w.EC;rotate_left;rw[AF rfl];refine Zf (zi q1 Wh) ?_;intro g28;refine BM (Z4 (λ_=>ab) (l:=[(10,.A_ 28 g28 0 1 7)]) (m:=[(28,qC g28 0 (X8 .new ⟨b,q,w.AP,a.l++w.AP,[],ad⟩).cells)]) ?_ ?_) ?_;simp -implicitDefEqProofs only[go_sem,seval];exact Zd;simp only[Z2,Z5,CE];exact D_ (cs:=[qE (Zb b),q,qE (Zb w.AP),qE (Zb (a.l++w.AP)),.AG,.AG,ad]) rfl zp ⟨Zd,Zd,Zd,Zd,Zd,Zd,Zd,AJ⟩;refine BM (Z4 (λo=>o==28) (l:=[(10,Za .new 7 (X8 .new) (Zb [⟨b,q,w.AP,a.l++w.AP,[],ad⟩]))]) (m:=[]) ?_ trivial) ?_;simp -implicitDefEqProofs only[go_sem,seval];exact Xm (f:=X8 .new) (l:=[⟨b,q,w.AP,a.l++w.AP,[],ad⟩]) rfl zp λ_=>rfl;exact Zr;rw[AA zS];refine Zf (j3 q1 Wh Zj) ?_;refine Zc K ?_ (s:=yQ G K c.ent d.ent m zo w.BD J.1 J.2);cases q2:m.p.allP w.BD;rw[AA zS];refine Zg (zi q2 Wh) ?_;intro g37;refine BM (Z4 (λo=>o==37) (l:=[(6,.ptr 6 A 0)]) (m:=[(6,qC A 0 [qE (Zb b),q,qE (Zb w.AP),qE (Zb (a.l++w.AP)),Za .new 2 (V6 .new) (Zb [(w.BD,.nil)]),.AG,ab])]) ?_ ?_) ?_;simp -implicitDefEqProofs only[go_sem,seval];exact Zd;simp only[Z2,Z5,CE];exact D_ (cs:=[qE (Zb b),q,qE (Zb w.AP),qE (Zb (a.l++w.AP)),.A_ 37 g37 0 1 2,.AG,ab]) rfl zp ⟨Zd,Zd,Zd,Zd,Xm (f:=V6 .new) (l:=[(w.BD,.nil)]) rfl zp λ_=>rfl,Zd,Zd,AJ⟩;refine Z ?_;intro g40;refine BM (Z4 (λ_=>ab) (l:=[(10,.A_ 40 g40 0 1 7)]) (m:=[(40,qC g40 0 (X8 .new ⟨b,q,w.AP,a.l++w.AP,[(w.BD,[])],ab⟩).cells)]) ?_ ?_) ?_;simp -implicitDefEqProofs only[go_sem,seval];exact Zd;simp only[Z2,Z5,CE];exact D_ (cs:=[qE (Zb b),q,qE (Zb w.AP),qE (Zb (a.l++w.AP)),Za .new 2 (V6 .new) (Zb [(w.BD,.nil)]),.AG,ab]) rfl zp ⟨Zd,Zd,Zd,Zd,Zd,Zd,Zd,AJ⟩;refine BM (Z4 (λo=>o==40) (l:=[(10,Za .new 7 (X8 .new) (Zb [⟨b,q,w.AP,a.l++w.AP,[(w.BD,[])],ab⟩]))]) (m:=[]) ?_ trivial) ?_;simp -implicitDefEqProofs only[go_sem,seval];exact Xm (f:=X8 .new) (l:=[⟨b,q,w.AP,a.l++w.AP,[(w.BD,[])],ab⟩]) rfl zp λ_=>rfl;exact Zr;rw[AF rfl];have hR:=(PM.fansR_ok D most _ (m.p.outI w.BD) rfl λo ho=>PM.wysI_rng ho).1;have hol:aa (m.p.outI w.BD)<=512:=CT (PM.wysI_len (m:=m.p) w.BD ab (aa m.p.AE)) hlw;have Y:∀ t∈m.p.outI w.BD,0<=t/\t<aa m.p.AE:=λt ht=>PM.wysI_rng ht;have R:=λc d=>Nt G K c d m zo w.BD;have C:=λc d c1=>tp G K c d c1 m D (Zb (m.p.outI w.BD)) (by rw[Zl];exact hol) (by rw[Zl];exact Y) most hmo;rw[Zl]at C;obtain⟨hrl,N⟩:=hR;generalize m.p.fansR most (m.p.outI w.BD)=rows at hrl N C⊢;generalize m.p.outI w.BD=S at hol Y R C N;have I:(Zb rows).l=rows:=Zl _;refine Zg (j3 q2 Wh Zj) ?_
 repeat first|refine BK ?_|refine Zz ?_
 refine Zv ⟨λj=>if j=4 then qE (Zb S)else Za .new 1 (W9 .new) (Zb rows),λ_=>.pure⟩ zk K zk zk ?_;refine Xc (zi @Wh @Zj) ?_;refine⟨⟨zk,?_⟩,⟨zk,?_⟩,?_⟩;simp -implicitDefEqProofs only[go_sem,seval];exact(R _ _).mono λv _ e=>by rw[e,Xv];rfl
 simp -implicitDefEqProofs only[go_sem,seval];exact(C _ _ _).mono λv _ e=>by rw[e,za];rfl
 refine Z ?_;refine Z8 [5,6,12] [6] (aa rows) (λi  g=>[(11,AZ 118 g 7 ((rows.take i).map (Fb b q a.l w))),(13,i)]) (λi g=>[(118,Z9 g (X8 .new) ((rows.take i).map (Fb b q a.l w)))]) (λ_ _=>True) 0 0 qz trivial (zq (zi @Wh @Zj)) zp ?_;intro i g hi _ K1 B;by_cases x:i<aa rows
 rotate_left;have hie:i=aa rows:=zo;have O:=zV ((aa rows:Int)<(aa rows:Int));rw[hie,B_];refine BM (Z4 (λo=>o==118) (l:=[(12,Za .new 1 (W9 .new) (Zb rows)),(11,Za .new 7 (X8 .new) (Zb (rows.map (Fb b q a.l w)))),(13,aa rows)]) (m:=[]) ?_ trivial) ?_;simp -implicitDefEqProofs only[go_sem,seval];exact⟨Zd,Yp (l:=rows.map (Fb b q a.l w)) (f:=X8 .new) rfl zp BE,Zd⟩;exact Zq (zi O I);have O:=zU ((i:Int)<(aa rows:Int));have P:=AY x;obtain⟨U,M⟩:=N _ (BT x);have hti:rows.take (i+1)=rows.take i++[rows[i]]:=DO x;rw[hti,DL,BI,BV]at B
 have hli:aa ((rows.take i).map (Fb b q a.l w))=i:=by rw[BC,CZ];omega
 generalize rows[i]=row at P U M B;generalize(rows.take i).map (Fb b q a.l w)=L at B hli⊢;have eR:(Zb row).l=row:=Zl _;have wi:=wQ ((i:Int)+1);have hrow:aa row<=512:=zo;refine Ym (zi O I) ?_;refine Z ?_;intro z;refine Z ?_;refine Wy (aa row) (λk  Q=>st [(5,qW (Zw c d m)),(6,.ptr 6 A 0),(12,Za .new 1 (W9 .new) (Zb rows)),(11,AZ 118 g 7 L),(13,i),(14,.ptr 14 z 0),(15,k)] [(6,qC A 0 [qE (Zb b),q,qE (Zb w.AP),qE (Zb (a.l++w.AP)),.AG,.AG,ab]),(118,Z9 g (X8 .new) L),(14,qC z 0 [qE (Zb b),q,qE (Zb (w.AP++(row.take k).flatMap (·.AP))),qE (Zb (a.l++w.AP)),AZ 97 Q 2 (Ge (row.take k)),.AG,((row.take k).any (·.EC))]),(97,Z9 Q (V6 .new) (Ge (row.take k)))]) (λ_ _=>True) 0 0 qz trivial (Z4 (λ_=>ab) ?_ ?_) ?_;simp -implicitDefEqProofs only[go_sem,seval,Wh,Zj];exact⟨Zd,Zd,Zd,Zd,Zd,Zd,Zd⟩;simp only[Z2,Z5,CE];refine⟨DR rfl,DR rfl,?_,AJ⟩;rw[HZ,NQ,DW];exact D_ (cs:=[qE (Zb b),q,qE (Zb w.AP),qE (Zb (a.l++w.AP)),.AG,.AG,ab]) rfl zp ⟨Zd,Zd,Zd,Zd,Zd,Zd,Zd,AJ⟩;intro k Q hk _ K2 r;by_cases y:k<aa row
 .have hlt2:=zU ((k:Int)<(aa row:Int));have hgk:=AY y;have T:=M _ (BT y);have htk:row.take (k+1)=row.take k++[row[k]]:=DO y;have e1:Ge (row.take k++[row[k]])=Ge (row.take k)++[(row[k].BD,Zb row[k].AP)]:=by rw[Ge,DL];rfl
  rw[htk,HU,FY,NQ,DW,<- DH,WA,HR,TF,DZ,e1]at r;have hgl:aa (w.AP++(row.take k).flatMap (·.AP))<1000000:=by have:aa ((row.take k).flatMap (·.AP))<=_:=ib (n:=513) (l:=row.take k) λu hu=>W u (M u (OX hu));rw[BQ];rw[CZ]at this;have h2:min k (aa row)*513<=512*513:=cU zo ql;omega
  have hel:aa (Ge (row.take k))=k:=by rw[Ge,BC,CZ];omega
  generalize row[k]=u at hgk T r;generalize w.AP++(row.take k).flatMap (·.AP)=gu at r hgl⊢;generalize Ge (row.take k)=en at r hel⊢;generalize(row.take k).any (·.EC)=tw at r⊢;have wk:=wQ ((k:Int)+1);have hup:=W u T;have eU:(Zb u.AP).l=u.AP:=Zl _;have f:=j9 I P x eR hgk y Ej Wh Ya;refine Ym f ?_;refine H_ f ?_
  repeat first|refine BK ?_|refine Zz ?_
  refine Zv ⟨λ_=>qE (Zb (gu++u.AP)),λ_=>.pure⟩ zk K zk zk ?_;refine Xc f ?_;refine⟨⟨zk,?_⟩,?_⟩;simp -implicitDefEqProofs only[go_sem,seval];refine(Hj G _ _ (Zb gu) (Zb u.AP) (by rw[Zl];omega) (by rw[eU];omega)).mono λv _ e=>?_;rw[e,Zl,eU,Xv];rfl;refine Pr f K ?_;intro g96;refine Yg (f:=V6 .new) (l:=en) (l2:=[(u.BD,Zb u.AP)]) BE rfl rfl rfl zp (Z3 zo zO) λH=>?_;refine Zs ?_;cases tw;rw[CH]at r;refine Zf (zi wk f) ?_;refine r _ ⟨y,H,AJ,Z4 (λ_=>ab) ?_ ?_⟩;simp -implicitDefEqProofs only[go_sem,seval,Wh,Zj,wk];exact⟨Zd,Zd,Zd,Zd,Zd,Zd,Zd⟩;simp only[Z2,Z5,CE];exact⟨DR rfl,DR rfl,D_ (cs:=[qE (Zb b),q,qE (Zb (gu++u.AP)),qE (Zb (a.l++w.AP)),AZ 97 H 2 (en++[(u.BD,Zb u.AP)]),.AG,u.EC]) rfl zp ⟨Zd,Zd,Zd,Zd,Zd,Zd,Zd,AJ⟩,DR rfl⟩;rw[LA]at r;refine Zf (zi wk f) ?_;refine r _ ⟨y,H,AJ,Z4 (λ_=>ab) ?_ ?_⟩;simp -implicitDefEqProofs only[go_sem,seval,Wh,Zj,wk];exact⟨Zd,Zd,Zd,Zd,Zd,Zd,Zd⟩;simp only[Z2,Z5,CE];exact⟨DR rfl,DR rfl,D_ (cs:=[qE (Zb b),q,qE (Zb (gu++u.AP)),qE (Zb (a.l++w.AP)),AZ 97 H 2 (en++[(u.BD,Zb u.AP)]),.AG,ad]) rfl zp ⟨Zd,Zd,Zd,Zd,Zd,Zd,Zd,AJ⟩,DR rfl⟩
 have hke:k=aa row:=zo;have hlt2:=zV ((aa row:Int)<(aa row:Int));rw[hke,B_];refine BM (Z4 (λo=>o==97) (l:=[(5,qW (Zw c d m)),(6,.ptr 6 A 0),(12,Za .new 1 (W9 .new) (Zb rows)),(11,AZ 118 g 7 L),(13,i),(14,.ptr 14 z 0),(15,aa row)]) (m:=[(6,qC A 0 [qE (Zb b),q,qE (Zb w.AP),qE (Zb (a.l++w.AP)),.AG,.AG,ab]),(118,Z9 g (X8 .new) L),(14,qC z 0 [qE (Zb b),q,qE (Zb (w.AP++row.flatMap (·.AP))),qE (Zb (a.l++w.AP)),Za .new 2 (V6 .new) (Zb (Ge row)),.AG,(row.any (·.EC))])]) ?_ ?_) ?_;simp -implicitDefEqProofs only[go_sem,seval,Wh,Zj];exact⟨Zd,Zd,Zd,Zd,Zd,Zd,Zd⟩;simp only[Z2,Z5,CE];exact⟨DR rfl,DR rfl,D_ (cs:=[qE (Zb b),q,qE (Zb (w.AP++row.flatMap (·.AP))),qE (Zb (a.l++w.AP)),AZ 97 Q 2 (Ge row),.AG,(row.any (·.EC))]) rfl zp ⟨Zd,Zd,Zd,Zd,Yp (l:=Ge row) (f:=V6 .new) rfl zp BE,Zd,Zd,AJ⟩⟩;refine BM (Z4 (λ_=>ab) (l:=[(5,qW (Zw c d m)),(6,.ptr 6 A 0),(12,Za .new 1 (W9 .new) (Zb rows)),(11,AZ 118 g 7 L),(13,i),(14,.ptr 14 z 0),(15,aa row)]) (m:=[(6,qC A 0 [qE (Zb b),q,qE (Zb w.AP),qE (Zb (a.l++w.AP)),.AG,.AG,ab]),(118,Z9 g (X8 .new) L),(14,qC z 0 [qE (Zb b),q,qE (Zb (w.AP++row.flatMap (·.AP))),qE (Zb (a.l++w.AP)),Za .new 2 (V6 .new) (Zb (Ge row)),.AG,(row.any (·.EC))])]) ?_ ?_) ?_;simp -implicitDefEqProofs only[go_sem,seval,Wh,Zj];exact⟨Zd,Zd,Zd,Zd,Zd,Zd,Zd⟩;simp only[Z2,Z5,CE];exact⟨DR rfl,DR rfl,D_ (cs:=[qE (Zb b),q,qE (Zb (w.AP++row.flatMap (·.AP))),qE (Zb (a.l++w.AP)),Za .new 2 (V6 .new) (Zb (Ge row)),.AG,(row.any (·.EC))]) rfl zp ⟨Zd,Zd,Zd,Zd,Zd,Zd,Zd,AJ⟩⟩;have f:=j7 @LM I P x eR Ej Ya;have hed:(row.map λw=>(w.BD,w.AP)).map (λe=>(e.1,Zb e.2))=Ge row:=by rw[EL];rfl
 have hen:row.any (·.EC)=ab->(PM.rowEnds row).map (λe=>(e.1,Zb e.2))=Ge row:=λh=>by rw[PM.rowEnds,AA (by rw[h];simp),hed]
 have hen2:row.any (·.EC)=ad->PM.rowEnds row=[]:=λh=>AF h;have F:X8 .new (Fb b q a.l w row)=.agg [qE (Zb b),q,qE (Zb (w.AP++row.flatMap (·.AP))),qE (Zb (a.l++w.AP)),Za .new 2 (V6 .new) (Zb ((PM.rowEnds row).map λe=>(e.1,Zb e.2))),.AG,(row.any (·.EC))]:=rfl;cases E:row.any (·.EC);rw[hen E,E]at F;refine Zf f ?_;intro g117;refine Yg (f:=X8 .new) (l:=L) (l2:=[Fb b q a.l w row]) BE rfl (by rw[BI,BV,F];rfl) rfl zp (Z3 zo zO) λg2=>?_;refine Zs ?_;refine Zf wi ?_;exact B _ ⟨x,g2,AJ,AO (zq (j3 @Wh @Zj wi)) zp⟩;rw[hen2 E,E]at F;refine Zf f ?_;intro g117;refine Yg (f:=X8 .new) (l:=L) (l2:=[Fb b q a.l w row]) BE rfl (by rw[BI,BV,F];rfl) rfl zp (Z3 zo zO) λg2=>?_;refine Zs ?_;refine Zf wi ?_;exact B _ ⟨x,g2,AJ,AO (zq (j3 @Wh @Zj wi)) zp⟩
