/- A part. No condition. -/
import Derived.Test.YtkennpiglkfalaaGreatDoorP43
set_option linter.all false
open List renaming length->aa
open Bool renaming false->ab,true->ad
open Option renaming some->ae,none->ah
open Go.Proofs.Tryz renaming prog->ai
open Go.Proofs.Tryz
open List renaming range->aE
section
namespace Go.Hs
open Go.Proofs
set_option maxHeartbeats 2000000
set_option maxRecDepth 10000
def HandX.weak{P E ops R o s s' K}(d:Weak E s s')(f:o.guard=ah)(h:HandX P E ops R o s' K):HandX P E ops R o s K:=by
 have b:∀ τ,Yc ops τ o=ae _:=λτ => by unfold Yc;rw[f]
 rcases h with ⟨_,h⟩|⟨h,_⟩;refine .inl ⟨b _,λX a g=>?_⟩;have⟨Y,c⟩:=d a _ ⟨X,g⟩;have e:=c.hw;rw[<- e]at c⊢;exact h Y a c;rw[b]at h;cases h
abbrev MF:=@HandX.weak
def W5{P}(b){G f a H K}(args')(c:FzL (λo=>o==b) H a args')(h:CallA P G f args' (Ye H b .AR) K):CallA P G f a H K:=
 I1 _ c.get.1 c.get.2 (λo=>by by_cases e:o=b;subst e;rw[Ys];trivial;rw[Zy _ _ e];exact DR (by simp[e])) h
def Weak.tm{E τ H l}(h:Vy τ l):Weak E ⟨τ,H⟩ ⟨Yb Mv l,H⟩:=
 T4 _ (λt=>by rcases Vl t l (X5 h)with a|a;exact .inl a;refine .inr ?_;dsimp only;rw[a];exact Zd) λo=>DR rfl
def Uu(c:AH)(e:Int×iS):V:=.agg [qI e.1,Za c 1 () (Zb e.2)]
def Ut(c e):Uu c e=.agg [qI e.1,Za c 1 () (Zb e.2)]:=rfl
def UV(c e):(Uu c e).cells.length=2:=rfl
def YV(g c e):(Uu c e).recol g=Uu (g c) e:=by simp only[Ut,X9,BI,BV,Xr,Xv]
def Vf(c:AH)(l:List (Int×iS)):V:=Za c 2 (Uu c) (Zb l)
@[go_sem] def XB(g c l):(Vf c l).recol g=Vf (g c) l:=Xz g c 2 (YV g c) _
def fT(c):Vf c []=.AG:=rfl
def ZA{c l}(h:l≠[]):Vf c l=.slice c ab 2 (l.map (Uu c)):=by cases l with|nil=>exact absurd rfl h|cons=>rfl
@[go_sem] def ADc(c l):(Vf c l).cells=[Vf c l]:=by cases l<;>rfl
@[go_sem] def AEV(c l):(Vf c l).solid=ad:=by cases l<;>rfl
def OwnC.of{P G f a v}(b:Yf P f=ad)(h:InSp P G f a Zm (λv' _=>v'=v)):OwnC P G f a v:=λH K d=>
 HO [] b (λp c=>by cases c) (h.mono λv' g e=>by subst e;exact d)
def n0(G l)(a:l.length<1000000):InSp ai G 174 [Vf .new l] Zm (Vf .new l):=by refine Wx 0 8 _ func174 rfl rfl rfl rfl λX=>?_;by_cases h:l=[];subst h;rw[fT];exact Zr;rw[ZA h];refine Z ?_;intro g;refine⟨Z3 zo (by rw[BC];omega),λb=>?_⟩;refine Zs ?_;refine BM (Z4 (λo=>o==5) (l:=[(2,.slice .new ab 2 (l.map (Uu .new)))]) (m:=[]) ?_ trivial) ?_;refine Zs ?_;rw[BC];exact Xm rfl zp (UV _);exact Zr
def S5{P G f a H K}(args')(b:FzL (λ_=>ab) H a args')(h:CallA P G f args' H K):CallA P G f a H K:=
 I1 _ b.get.1 b.get.2 (λo=>DR rfl) h
def HG{σ κ κ2:Type}(nx:σ->κ2->Bool × σ)(f:κ->List κ2)(w:σ × Bool)(k:κ): σ × Bool:=((Y4 nx w.1 (f k)).2,(Y4 nx w.1 (f k)).1)
def jB{σ:Type}(w:σ × Bool):Option Code:=if w.2=ad then ah else ae .ret
def Ca{σ κ b}(a)(f:κ->List b):∀ xs (s:σ),Y4 a s (xs.flatMap f)=((Y4 (λw k=>((jB (HG a f w k)).isNone,HG a f w k)) (s,ad) xs).2.2,(Y4 (λw k=>((jB (HG a f w k)).isNone,HG a f w k)) (s,ad) xs).2.1)
 |[],s=>rfl|k::r,s=>by rw[FY,Cb,Y4];have e:HG a f (s,ad) k=((Y4 a s _).2,(Y4 a s _).1):=rfl;rw[e];cases c:(Y4 a s _).1;simp[jB];simp only[jB,EN,Option.isNone_none];exact Ca a f r _
def ZK{σ κ d c a}{f:κ->List d}:∀ {xs} {s:σ},Oo c a s (xs.flatMap f)->Oo (λw k=>Oo c a w.1 (f k)/\jB w=ah) (λw k=>((jB (HG a f w k)).isNone,HG a f w k)) (s,ad) xs
 |[],s,_=>trivial|k::r,s,h=>by rw[FY]at h;have⟨e,h2⟩:=El h;refine⟨⟨e,rfl⟩,λq=>?_⟩;simp only[HG]at q⊢;generalize Y4 a s _=z at h2 q⊢;have⟨b,g⟩:=z;cases b;cases q;exact ZK (h2 rfl)
def RI(c:AH)(l:List (Int×iS)):V:=match l with|[]=>.AG|_::_=>.slice c ad 2 (l.map (Uu c))
def iP{c l}(h:l≠[]):RI c l=.slice c ad 2 (l.map (Uu c)):=by cases l with|nil=>exact absurd rfl h|cons=>rfl
def qo(c l):Uz ai 47 (.slice c ab 2 l) ah (ae (qI l.length)) (ae (qI l.length))=ae (.slice c ad 2 l):=by
 have b:ai.underlying 47=ae (.slice 95):=zk;have h2:Y0 ai 95=ae 2:=zk;have a:∀ d,Y5 d (ae (qI (aa l:Int)))=ae (aa l):=λd=>by simp[Y5]
 unfold Uz;rw[b];simp only[a];rw[show Y5 0 _=ae 0 from rfl];simp only[h2,CB,BO,and_self,EN,HB,IS,B_];rw[a];simp only[BO,and_self,EN,J']
def uJ(G c l)(a:l.length<1000000):InSp ai G 175 [Vf c l] Zm (RI c l):=by refine Wx 0 9 _ func175 rfl rfl rfl rfl λX=>?_;by_cases h:l=[];subst h;rw[fT];exact Zr;rw[ZA h,iP h];refine Z ?_;rw[qo];refine Zs ?_;refine Z ?_;rfl
def H5{a lo}(H)(h:a<=lo):Yi a (Yi lo H)=Yi lo H:=by funext o;rcases GG o lo with q|q;rw[W6 q];rcases GG o a with b|b;rw[W6 b];rw[V8 b,W6 q]<;>rfl;rw[V8 (CT h q),V8 q,N9]
@[go_sem] def AD1(H):Yi 100 (Yi 1000 H)=Yi 1000 H:=H5 H zd
def ACF{lo H a b c d e}(h:lo=1000):Ye (Ye (Ye (Ye (Ye (Ye (Ye (Yi lo H) 108 e) 107 d) 106 c) 105 b) 104 a) 108 e) 190 .AR=Ye (Ye (Ye (Ye (Ye (Yi lo H) 108 e) 107 d) 106 c) 105 b) 104 a:=by subst h;funext o;by_cases q:o=190;subst q;simp[Ye,W6];rw[Zy _ _ q];by_cases f:o=108;subst f;simp[Ye];rw[Zy _ _ f]
def eu{lo H a b c d e}(h:lo=1000):Ye (Ye (Ye (Ye (Ye (Ye (Yi lo H) 108 e) 107 d) 106 c) 105 b) 104 a) 190 .AR=Ye (Ye (Ye (Ye (Ye (Yi lo H) 108 e) 107 d) 106 c) 105 b) 104 a:=by subst h;funext o;by_cases q:o=190;subst q;simp[Ye,W6];rw[Zy _ _ q]
def Cp{E lo}(F){τ H B l m}(j:∀ o,lo<=o->F o=ab)(h:Nf F H τ l)(i:∀ p∈m,F p.1=ab)(g:Vy H m)(k:Yi lo H=Yi lo B):Weak E ⟨τ,H⟩ (Hs.stM lo B l m):=by
 refine T4 F (λt=>Fi t h) (λo=>?_);show FzO _ H o (Yb (Yi lo B) m o);by_cases a:∃ p∈m,p.1=o;rcases Vl o m (X5 g)with b|b;rw[b,<- k];rcases GG o lo with q|q;rw[W6 q];trivial
 .rw[V8 q];have:=DR (H:=H) (j o q);cases d:H o with|mp=>trivial|_=>rw[d]at this;exact this
 obtain⟨p,s,rfl⟩:=a;rw[b];exact DR (i p s)
 .have b:Yb (Yi lo B) m o=Yi lo B o:=by
   try clear g i
   induction m with|nil=>rfl|cons p r ih=>rw[Yb,Zy _ _ (λe=>a ⟨p,GA ..,e.symm⟩)];exact ih fun⟨n,c,e⟩=>a ⟨n,FR _ c,e⟩
  rw[b,<- k];rcases GG o lo with q|q;rw[W6 q];trivial
  .rw[V8 q];have:=DR (H:=H) (j o q);cases d:H o with|mp=>trivial|_=>rw[d]at this;exact this
def mq{P E ops Q rest τ}{H:A'}{e bytes c l}(x){ob xc}(d:xc=(Uu c x).cells)(b:Tg bytes (l.length+1))(h:∀ g,Yx P E ops Q rest ⟨Ye τ e (.A_ (E.q+e) g 0 (l++[x]).length 2),Ye H (E.q+e) (qC g 0 (flat ((l++[x]).map (Uu c))))⟩):B7 P E ops Q rest e τ H 2 bytes (RI c l) (ae (1,xc)) ob:=by subst d;rcases l with _|⟨y,r⟩;rw[show RI c []=.AG from rfl,uy];exact⟨zu b,λa=>absurd a zd,λ_ g=>h g⟩;rw[iP zS,fR];refine⟨rfl,zu b,λa=>absurd a zd,λ_=>⟨rfl,λg=>?_⟩⟩;have:=h g;rw[BQ,DL,T0]at this;rw[BC];exact this
def ZJ{σ κ}{A:σ->κ->Prop}{J:σ->Prop}{Q:κ->Prop}{a}:∀ {xs} {s},Oo (λw k=>A w k/\J w) a s xs->(∀ k∈xs,Q k)->Oo (λw k=>(A w k/\Q k)/\J w) a s xs
 |[],_,_,_=>trivial|k::r,s,h,hq=>⟨⟨⟨h.1.1,hq k (GA ..)⟩,h.1.2⟩,λz=>ZJ (h.2 z) λk' b=>hq k' (FR _ b)⟩
def Ns(m:PM):∀ f v p,p≠[]->∀ w∈m.walkF f v p,w.1≠[]
 |0,v,p,hp,w,a=>by cases a;exact hp;rename_i h;cases h|f+1,v,p,hp,w,a=>by rw[Hh]at a;split at a;have⟨t,_,a⟩:=KK.1 a;unfold PM.walkG at a;split at a;rw[CP]at a;subst a;simp;exact Ns m f _ _ zS w a;rw[CP]at a;subst a;exact hp
def Mg{l:iS}(h:l≠[]):Zb l=.mk ab l:=by cases l with|nil=>exact absurd rfl h|cons=>rfl
def ABA(G)(hG:Yy G)(m x)(hx:EQ m.p x)(hw:m.p.AE.length<100000)(hr:∀ t:Int,0<=t->t<m.p.AE.length->0<=m.p.tg t/\m.p.tg t<m.p.AN.length):∀ KV AT q b c d e f g co H,(∀ t∈KV,0<=t/\t<m.p.AE.length)->KV.length+AT.length<100000 ->
   QU ai G 1000 110 (λy=>[Vn b c d e f g m x,Za co 1 (V.int .i64) (.mk q KV),Vf .new AT,y]) H (λes=>[Vf .new es]) (m.p.forkF KV AT) V.bool:=by
 intro KV
 induction KV with
 |nil=>intro AT q b c d e f g co H W hn;refine Uh .HF 100 50 4 [.cell 8 4] func110 λX t cl σ R dom L U hy hd hR _=>?_;refine BM (We (lo:=1000) (B:=H) (l:=[(0,Vn b c d e f g m x),(1,Za co 1 (V.int .i64) (.mk q [])),(2,Vf .new AT),(3,.func t [] cl)]) (m:=[]) ⟨rfl,rfl,rfl,rfl,AJ⟩ trivial rfl) ?_;refine Z ?_;intro I F N E s;refine Z ?_;refine Bw 3 ⟨λ_=>Vf .new AT,λ_=>.own⟩ zk hG zk zk zk zk ?_;refine Zs ?_;refine⟨OwnC.of zk (n0 G AT zo),_,rfl,?_⟩;refine MF (Qx (lo:=1000) (B:=H) (l:=[(8,.ptr 108 s 0),(14,.func t [] cl),(16,Vf .new AT)]) (m:=[(108,qC s 0 [ab])]) (by refine Zs ?_;exact⟨Zd,Zd,Zd⟩) ⟨zp,AJ⟩ zp) rfl (Po hy U AT zp zm hd.1 ?_ (λH2 C a=>?_) zk (n:=3) rfl zp);refine Zs ?_;exact hR;have j:=a 108 zd;simp -implicitDefEqProofs only[go_sem,seval]at j;refine Zg j ?_;show(_/\R (Y4 L U [AT]).2 _);rw[PM.forkF,Iq];refine⟨.inl rfl,?_⟩;refine Zs ?_;exact C|cons o r ih=>
  intro AT q b c d e f g co H W hn;obtain⟨o0,o1⟩:=W o (GA ..);obtain⟨n,y,rfl,hn',hgy,ey⟩:=m.wyAt o0 o1;have etg:m.p.tg (n:Int)=y.target:=by rw[PM.tg,ey]<;>rfl
  refine Uh .HF 100 50 4 [.cell 8 4] func110 λX t cl σ R dom L U hy hd hR _=>?_;refine BM (We (lo:=1000) (B:=H) (l:=[(0,Vn b c d e f g m x),(1,Za co 1 (V.int .i64) (.mk q ((n:Int)::r))),(2,Vf .new AT),(3,.func t [] cl)]) (m:=[]) ⟨rfl,rfl,rfl,rfl,AJ⟩ trivial rfl) ?_;have hq:Za co 1 (V.int .i64) (.mk q ((n:Int)::r))=.slice co q 1 (((n:Int)::r).map (V.int .i64)):=rfl;have hne:((aa ((n:Int)::r):Int)==0)=ab:=by rw[CW];exact OG zo
  refine Z ?_;intro I F N E s;refine Zf (zi hne hq) ?_;refine Zv ⟨λ_=>.top,λi=>if i=16 then .any else .pure⟩ zk hG zk zk ?_;simp -implicitDefEqProofs only[go_sem,seval,hgy,hn',Tt,Z6,@DS,@GY];refine⟨rfl,λg33=>?_⟩;refine W5 133 [Vn b c d e f g m x,(m.p.tg n),qE (.mk ab [(n:Int)])] ⟨Zd,by rw[etg];exact Zd,Xm (f:=V.int .i64) (l:=[(n:Int)]) rfl zp BE,AJ⟩ ?_;refine S5 [Vn b c d e f g m x,(m.p.tg n),qE (.mk ab [(n:Int)])] ⟨Zd,Zd,Zd,AJ⟩ ?_;refine HO [(63,.AR),(64,.AR),(65,.AR)] zk ?_ ((kU G b c d e f g m x _ (.mk ab [(n:Int)])).mono ?_);intro p A;simp only[BY,CL,CF]at A;rcases A with rfl|rfl|rfl<;>rfl;rintro w H' ⟨w3,w4,w5,rfl,e3,e4,e5⟩;simp -implicitDefEqProofs only[go_sem,seval,Yb,e3,e4,e5];refine BK ?_;rw[PM.forkF]at hd⊢;rw[Ca];refine BM (We (lo:=1000) (B:=H) (l:=[(4,.ptr 104 I 0),(5,.ptr 105 F 0),(6,.ptr 106 N 0),(7,.ptr 107 E 0),(8,.ptr 108 s 0),(34,.func (.func 171) [] [.ptr 63 w3 0,.ptr 64 w4 0,.ptr 65 w5 0])])
   (m:=[(104,qC I 0 [Vn b c d e f g m x]),(105,qC F 0 [Za co 1 (V.int .i64) (.mk q ((n:Int)::r))]),(106,qC N 0 [Vf .new AT]),(107,qC E 0 [.func t [] cl]),(108,qC s 0 [ab]),
    (63,qC w3 0 [Vn b c d e f g m x]),(64,qC w4 0 [(m.p.tg n)]),(65,qC w5 0 [qE (.mk ab [(n:Int)])])]) ⟨rfl,rfl,rfl,rfl,rfl,rfl,AJ⟩ ⟨zr,zr,zr,zr,zr,zr,zr,zr,AJ⟩ zp) ?_
  refine AW.range 50 100 190 150 (fun w  H=>R w.1 (Yi 1000 H)/\H=Yb (Yi 1000 H) [(104,qC I 0 [Vn b c d e f g m x]),(105,qC F 0 [Za co 1 (V.int .i64) (.mk q ((n:Int)::r))]),(106,qC N 0 [Vf .new AT]),(107,qC E 0 [.func t [] cl]),(108,qC s 0 [ab])])
   (HG L λw=>m.p.forkF r (AT++[(w.2,w.1)])) jB (λw k=>Oo dom L w.1 (m.p.forkF r (AT++[(k.2,k.1)]))/\k.1≠[]) (U,ad) rfl zk (by exact λ_ h=>nomatch h) (λp A=>?_) BE zd zd
   (λl r'=>jh G hG b c d e f g m x hx hw hr n o0 o1 w3 w4 w5 _ zp zp zp) (λ_ _ _=>trivial) rfl ?_ (ZJ (ZK hd) (Ns _ _ _ _ zS)) ?_ ?_
  simp only[BY,CL,CF]at A;rcases A with rfl|rfl;exact(by decide:35<50);exact(by decide:36<50);refine⟨?_,?_⟩;show R U _;refine Zs ?_;exact hR;refine Zs ?_;exact eu rfl
  .rintro l Y ⟨s1,b1⟩ ⟨AP,v⟩ Hk _ hrd J hjm ⟨rk,hB⟩;obtain⟨J,u⟩:=J;simp only at J rk u;generalize Ye (Yi 100 Hk) 190 .AR=B at *;cases b1;cases hjm;generalize hM:Yi 1000 B=M at rk hB;subst hB;have D:Yi 1000 M=M:=by simp -implicitDefEqProofs only[go_sem,seval]at hM;exact hM
   try clear hM
   refine Xc fU ?_;refine Wo zk ?_;refine Zs ?_;refine CA zk ?_;refine Zs ?_;intro Zx hXZ _;have hMd:∀ o,o<1000->M o=.AR:=λo W=>by rw[<- D,W6 W]
   have d195:=hMd 195 zd;have d196:=hMd 196 zd;refine BM (Weak.tm (l:=[(4,.ptr 104 I 0),(5,.ptr 105 F 0),(6,.ptr 106 N 0),(7,.ptr 107 E 0),(8,.ptr 108 s 0),(9,qE (.mk ab AP)),(10,v)]) ⟨rfl,rfl,rfl,rfl,rfl,rfl,rfl,AJ⟩) ?_;refine BK ?_
   repeat refine Zz ?_
   refine pf 11 [0,1,2,3,4,5,6,7,8,10,9] [(86,.ptr 104 I 0,Vn b c d e f g m x),(45,.ptr 105 F 0,Za co 1 (V.int .i64) (.mk q ((n:Int)::r))),(164,.ptr 107 E 0,.func t [] cl)]
    ⟨λi=>if i=0 then Vn b c d e f g m x else if i=1 then Za co 1 (V.int .i64) (.mk q ((n:Int)::r))else if i=4 then RI .new AT else .func t [] cl,λi=>if i=0 then .keep else if i=1 then .keep else if i=10 then .keep else .own⟩ zk hG zk zk zk zk zk zk ?_
   have T:∀ H',H' 104=qC I 0 [Vn b c d e f g m x]->H' 105=qC F 0 [Za co 1 (V.int .i64) (.mk q ((n:Int)::r))]->H' 107=qC E 0 [.func t [] cl] ->
     KpH ai [(86,.ptr 104 I 0,Vn b c d e f g m x),(45,.ptr 105 F 0,Za co 1 (V.int .i64) (.mk q ((n:Int)::r))),(164,.ptr 107 E 0,.func t [] cl)] H':=by
    intro H' q4 q5 q7 p A;simp only[BY,CL,CF]at A;rcases A with rfl|rfl|rfl;exact Vw q4;exact Vw (zi q5 hq);exact Vw q7
   have hsub:Za co 1 (V.int .i64) ((Sl.mk q ((n:Int)::r)).sub 1 (aa r+1))=Za co 1 (V.int .i64) (.mk q r):=by simp[Sl.sub]
   refine Zs ?_;refine⟨⟨zS,T _ zp zp zp⟩,⟨zS,T _ zp zp zp⟩,?_⟩;simp -implicitDefEqProofs only[go_sem,seval,hsub,BO,d195];refine⟨OwnC.of zk (uJ G _ AT zo),λg195=>?_⟩;refine⟨⟨zS,T _ zp zp zp⟩,?_⟩;refine mq (v,AP) (by rw[Ut,Mg u]<;>rfl) (Z3 zo zo) λg196=>?_;refine Zs ?_;refine⟨_,rfl,?_⟩;have hlen:aa (AT++[(v,AP)])=aa AT+1:=by rw[BQ]<;>rfl
   refine MF (Cp (lo:=1000) (B:=M) (λo=>o==196) (l:=[(8,.ptr 108 s 0),(37,Vn b c d e f g m x),(39,Za co 1 (V.int .i64) (.mk q r)),(46,Vf .new (AT++[(v,AP)])),(47,.func t [] cl)])
    (m:=[(104,qC I 0 [Vn b c d e f g m x]),(105,qC F 0 [Za co 1 (V.int .i64) (.mk q ((n:Int)::r))]),(106,qC N 0 [Vf .new AT]),(107,qC E 0 [.func t [] cl]),(108,qC s 0 [ab])])
    (λo W=>zO) (by refine Zs ?_;exact⟨Zd,Zd,Zd,by rw[ZA (l:=AT++[(v,AP)]) zS];exact Xm (f:=Uu .new) rfl zp (UV _),Zd⟩) (λp A=>by simp only[BY,CL,CF]at A;rcases A with rfl|rfl|rfl|rfl|rfl<;>rfl) ⟨zr,zr,zr,zr,zr,AJ⟩ zp) rfl ?_
   refine MF (Qx (lo:=1000) (B:=M) (l:=[(8,.ptr 108 s 0),(37,Vn b c d e f g m x),(39,Za co 1 (V.int .i64) (.mk q r)),(46,Vf .new (AT++[(v,AP)])),(47,.func t [] cl)])
    (m:=[(104,qC I 0 [Vn b c d e f g m x]),(105,qC F 0 [Za co 1 (V.int .i64) (.mk q ((n:Int)::r))]),(106,qC N 0 [Vf .new AT]),(107,qC E 0 [.func t [] cl]),(108,qC s 0 [ab])])
    (by refine Zs ?_;exact⟨Zd,Zd,Zd,Zd,Zd⟩) ⟨zr,zr,zr,zr,zr,AJ⟩ zp) rfl ?_
   refine E0 1000 ql (ih (AT++[(v,AP)]) q b c d e f g co _ (λt ht=>W t (FR _ ht)) (by rw[hlen];rw[CW]at hn;omega)) zk (λX' hle=>hy.at (hXZ.trans hle)) s1 rfl zm J ?_ (λH2 C a=>?_) zk (n:=11) rfl zp (λ_ _ _=>trivial);refine Zs ?_;rw[D];exact rk;have S:=a 104 zd;have Q:=a 105 zd;have P:=a 106 zd;have O:=a 107 zd;have j:=a 108 zd;simp -implicitDefEqProofs only[go_sem,seval]at S Q P O j;generalize hz:Y4 L s1 (m.p.forkF r (AT++[(v,AP)]))=z at C;have enx:HG L (λw=>m.p.forkF r (AT++[(w.2,w.1)])) (s1,ad) (AP,v)=(z.2,z.1):=by rw[<- hz]<;>rfl
   obtain⟨bb,s2⟩:=z;refine Zs ?_;refine BM (We (lo:=1000) (B:=H2) (l:=[(8,.ptr 108 s 0),(49,.bool !bb)]) (m:=[(104,qC I 0 [Vn b c d e f g m x]),(105,qC F 0 [Za co 1 (V.int .i64) (.mk q ((n:Int)::r))]),(106,qC N 0 [Vf .new AT]),(107,qC E 0 [.func t [] cl]),(108,qC s 0 [ab])])
    ⟨rfl,rfl,AJ⟩ ⟨S,Q,P,O,j,AJ⟩ rfl) ?_
   cases bb;refine Z ?_;refine FU ?_;refine Zs ?_;rw[enx];refine⟨rfl,C,?_⟩;exact ACF rfl;refine Z ?_;rw[enx];exact⟨rfl,C,eu rfl⟩
  rintro H2 ⟨K,hH⟩ _ _;generalize(Y4 (λw k=>((jB (HG L (λw=>m.p.forkF r (AT++[(w.2,w.1)])) w k)).isNone,HG L (λw=>m.p.forkF r (AT++[(w.2,w.1)])) w k)) (U,ad) (m.p.waysL (n:Int))).2=z at K⊢;generalize hM:Yi 1000 (Ye (Yi 100 H2) 190 .AR)=M at K hH;have D:Yi 1000 M=M:=by rw[<- hM,Dy]
  obtain⟨s2,b2⟩:=z;cases b2;refine BM (JA (l:=[(8,.ptr 108 s 0)]) hH ⟨rfl,AJ⟩) ?_;refine Z ?_;refine⟨.inl rfl,?_⟩;refine Zs ?_;rw[D];exact K;refine BM (JA (l:=[(8,.ptr 108 s 0)]) hH ⟨rfl,AJ⟩) ?_;refine Z ?_;refine⟨.inl rfl,?_⟩;refine Zs ?_;rw[D];exact K
def xx{P G X lo σ κ f a enc R b}{g:σ->κ->Bool × σ}{d c}(k q n m t)(y:P.funcs[f]?=ae d)(h:∀ s κ' Y H,b s κ'->X.le Y->R s (Yi lo H)->AW P ⟨Y,Yi lo H,n,q,G,ah,[],k⟩ c (Rf P t λv H'=>v=.bool (g s κ').1/\R (g s κ').2 (Yi lo H')) ⟨Tq 0 (enc κ'++a),Yi lo H⟩)(o:Yf P f=ad:=by kernel_rfl)(A:d.body=ae c:=by rfl)(x:d.ntmps=n:=by rfl)(w:d.results.toList=t:=by rfl)(E:∀ v,(enc v++a).length=m:=by exact λ_=>rfl)(i:Nat.ble m n=ad:=by rfl)(l:k=.plain\/k=.HF:=by first|exact .inl rfl|exact .inr rfl):Yd P G X lo (.func f) a enc R b g:=by subst x w;refine⟨λ_ h=>(by cases h),λs κ' Y H r z j C B D p=>⟨o,?_⟩⟩;refine(Kx l BE q y A (by rw[E];exact i) C D p (h s κ' Y H z j B)).mono ?_;rintro e w' ⟨c,v,H',K,⟨rfl,F,h2⟩|⟨k,l,_⟩,J,I,u⟩;rw[F]at u;cases u;exact⟨K,H',rfl,J,I,h2⟩;cases l
def Sk(s:BB):V:=.agg [qE (Zb s.BN),s.first,qE (Zb s.DU),qE (Zb s.DE),Vf .new s.AT,.AG]
def fF(s):Sk s=.agg [qE (Zb s.BN),s.first,qE (Zb s.DU),qE (Zb s.DE),Vf .new s.AT,.AG]:=rfl
def BB.GX(s:BB)(es:List (Int×iS)):BB:=⟨s.BN,s.first,s.DU++es.flatMap (·.2),s.DE,es⟩
@[go_sem] def AD3(H):Yi 1000 (Yi 2000 H)=Yi 2000 H:=H5 H zd
@[go_sem] def AD5(H):Yi 2000 (Yi 1000 H)=Yi 2000 H:=Mb H zd
def oZ(G)(hG:Yy G){X t cl σ R u}{J:σ->BB->Bool × σ}(hy:Yd ai G X 2000 t cl (λs:BB=>[Sk s]) R u J)(b:BB)(O:b.DU≠[])(I F E D C j r z y x w v):Yd ai G X 1000 (.func 111) [.ptr 1209 r 0,.ptr 1106 j 0] (λes=>[Vf .new es]) (λs H=>R s (Yi 2000 H)/\H=Yb (Yi 2000 H) [(1004,qC I 0 [z]),(1005,qC F 0 [y]),(1006,qC E 0 [x]),(1007,qC D 0 [w]),(1009,qC C 0 [v]),(1106,qC j 0 [.func t [] cl]),(1209,qC r 0 [qE (Zb b.BN),b.first,qE (Zb b.DU),qE (Zb b.DE),.AG,.AG])])
   (λs es=>u s (b.GX es)/\(b.DU++es.flatMap (·.2)).length<390000/\es.length<100000) (λs es=>J s (b.GX es)):=by
 refine xx _ 1300 27 3 _ func111 λs es Y H ⟨hd,N,hle⟩ P ⟨hR,hH⟩=>?_;generalize Yi _ H=B at *;generalize T:Yi 2000 B=M at hR hH;subst hH;have S:Yi 2000 M=M:=by simp -implicitDefEqProofs only[go_sem,seval]at T;exact T
 clear T;refine Z ?_;intro c;have U:Vf .new es=Za .new 2 (Uu .new) (Zb es):=rfl;rw[U]at *;refine Zf (Zl es) ?_;refine Wy (aa es) (λk  _=>Hs.stM 2000 M [(2,.ptr 1106 j 0),(5,.ptr 1305 c 0),(11,Za .new 2 (Uu .new) (Zb es)),(12,aa es),(13,k)]
   ((1305,qC c 0 [qE (Zb b.BN),b.first,qE (Zb (b.DU++(es.take k).flatMap (·.2))),qE (Zb b.DE),Za .new 2 (Uu .new) (Zb es),.AG])::[(1004,qC I 0 [z]),(1005,qC F 0 [y]),(1006,qC E 0 [x]),(1007,qC D 0 [w]),(1009,qC C 0 [v]),(1106,qC j 0 [.func t [] cl]),(1209,qC r 0 [qE (Zb b.BN),b.first,qE (Zb b.DU),qE (Zb b.DE),.AG,.AG])]))
  (λ_ _=>True) 0 () qz trivial (We ⟨rfl,rfl,zp,zp,zp,AJ⟩ ⟨by simp -implicitDefEqProofs only[go_sem,seval,NQ],zp,zp,zp,zp,zp,zp,zp,AJ⟩ zp) ?_
 intro k _ hk _ L hL;have p:∀ n,aa (b.DU++(es.take n).flatMap (·.2))<390000:=λn=>by
  refine TO ?_ N
  conv=>rhs;rw[<- HX n es,HU]
  simp only[BQ];omega
 have o:∀ n,b.DU++(es.take n).flatMap (·.2)≠[]:=λn h=>O (OP.1 h).1;by_cases f:k<aa es;have d:=zU ((k:Int)<(aa es:Int));have A:=AY f;have g:(es.take (k+1)).flatMap (·.2)=(es.take k).flatMap (·.2)++es[k].2:=by rw[IZ,A,HU];simp
 have i:=p (k+1);rw[g]at i;generalize es[k]=e at A g i;have w1:=wQ ((k:Int)+1);have hg2:(Zb es).l[k]?=ae e:=by rw[Zl];exact A
 have hk2:k<aa (Zb es).l:=by rw[Zl];exact f
 refine Zf (j6 d A f (Zl es) Ut Ya) ?_;intro g7';refine Z ?_;have W:aa (b.DU++(es.take k).flatMap (·.2))+aa e.2<390000:=by have:=i;simp only[BQ]at this⊢;omega
 have K:qE (.mk ab (b.DU++(es.take k).flatMap (·.2)++e.2))=qE (Zb (b.DU++(es.take (k+1)).flatMap (·.2))):=by
  rw[g,<- DH,Mg (l:=b.DU++(es.take k).flatMap (·.2)++e.2) (by intro h;exact o k (OP.1 h).1)]
 refine Zc hG ?_ (s:=E6 G hG _ _ _ _ (by rw[Zl];omega) (by rw[Zl];omega) (by rw[Zl,Zl];have:=JH.2 (o k);omega))
 refine Zf (zi w1 K) ?_;refine hL _ ⟨f,(),AJ,We ⟨rfl,rfl,zp,zp,zp,AJ⟩ ⟨zp,zp,zp,zp,zp,zp,zp,zp,AJ⟩ zp⟩;have q:k=aa es:=zo;have d:=zV ((k:Int)<(aa es:Int));rw[q,B_];rw[q]at d;refine Zs ?_;refine Wo zk ?_;refine Xc d ?_;refine Zz ?_;refine Xh rfl ?_;refine FO ?_;refine Zs ?_;refine Zz (Vm [2] zk (by rfl) ?_);simp -implicitDefEqProofs only[go_sem,seval,I4];refine⟨_,rfl,?_⟩;refine MF (Qx (lo:=2000) (B:=M) (l:=[(24,.func t [] cl),(25,Sk (b.GX es))]) (m:=[(1004,qC I 0 [z]),(1005,qC F 0 [y]),(1006,qC E 0 [x]),(1007,qC D 0 [w]),(1009,qC C 0 [v]),(1106,qC j 0 [.func t [] cl]),(1209,qC r 0 [qE (Zb b.BN),b.first,qE (Zb b.DU),qE (Zb b.DE),.AG,.AG])])
  (by simp -implicitDefEqProofs only[go_sem,seval];exact⟨Zd,Zd⟩) ⟨zp,zp,zp,zp,zp,zp,zp,AJ⟩ zp) rfl (Po (hy.at P) s (b.GX es) rfl zm hd ?_ (λH2 Q a=>?_) zk (n:=2) rfl zp)
 simp -implicitDefEqProofs only[go_sem,seval];rw[S];exact hR;have e1:=a 1004 zd;have e2:=a 1005 zd;have e3:=a 1006 zd;have e4:=a 1007 zd;have e5:=a 1009 zd;have e6:=a 1106 zd;have e7:=a 1209 zd;simp -implicitDefEqProofs only[go_sem,seval]at e1 e2 e3 e4 e5 e6 e7;refine Zs ?_;refine BM (We (lo:=2000) (B:=H2) (l:=[(4,.bool (J s (b.GX es)).1)]) (m:=[(1004,qC I 0 [z]),(1005,qC F 0 [y]),(1006,qC E 0 [x]),(1007,qC D 0 [w]),(1009,qC C 0 [v]),(1106,qC j 0 [.func t [] cl]),(1209,qC r 0 [qE (Zb b.BN),b.first,qE (Zb b.DU),qE (Zb b.DE),.AG,.AG])]) ⟨rfl,AJ⟩ ⟨e1,e2,e3,e4,e5,e6,e7,AJ⟩ rfl) ?_;refine Z ?_;refine⟨rfl,?_,?_⟩;simp -implicitDefEqProofs only[go_sem,seval];exact Q;simp -implicitDefEqProofs only[go_sem,seval]
def jq(m:PM)(a first b w)(h:w.2 ≠ -1/\m.allP w.2=ad):m.strW a first b w=(m.forkF (m.outI w.2) []).map (BB.GX ⟨a,first,w.1,b++w.1,[]⟩):=by rw[PM.strW,AF h]<;>rfl
def Am(m:PM)(a first b w)(h:¬(w.2 ≠ -1/\m.allP w.2=ad)):m.strW a first b w=[⟨a,first,w.1,b++w.1,[(w.2,[])]⟩]:=by rw[PM.strW,AA h]
def kn{σ κ b}(a)(f:κ->b):∀ xs (s:σ),Y4 a s (xs.map f)=Y4 (λs k=>a s (f k)) s xs
 |[],_=>rfl|k::r,s=>by rw[BI,Y4,Y4];split;exact kn a f r _;rfl
def gM{σ κ b a c}{f:κ->b}{Q:κ->Prop}:∀ {xs} {s:σ},Oo a c s (xs.map f)->(∀ k∈xs,Q k)->Oo (λs k=>a s (f k)/\Q k) (λs k=>c s (f k)) s xs
 |[],_,_,_=>trivial|k::r,s,h,hq=>⟨⟨h.1,hq k (GA ..)⟩,λz=>gM (h.2 z) λk' d=>hq k' (FR _ d)⟩
def fQ(G)(e:Yy G)(b c d x m)(f:EQ m x)(g:m.AE.length<1000000)(n:Nat)(p)(a:x.places.l[n]?=ae p)(k:(n:Int)<m.AN.length):Spec () G 51 [I5 b c d x,n] Zm (qE p.out.co):=by
 refine Zo 0 18 _ func51 λX=>?_;have i:=(DG.1 a).1;have j:(decide ((0:Int)<=(n:Int))&&decide ((n:Int)<aa x.places.l))=ad:=by rw[BP];exact⟨zT,zT⟩
 refine Z ?_;refine Zc e ?_ (s:=Tv G _ _ _ _ _);refine Zg (j6 j a i Sa Pc Ya) ?_;have h:aa p.out.l<1000000:=by rw[f.out n p a,PM.outI];exact TO (PM.wysI_len _ _ _) g
 refine Zc e ?_ (s:=Iw G _ _ h);exact Zr
@[go_sem] def AD2(H):Yi 100 (Yi 2000 H)=Yi 2000 H:=H5 H zd
@[go_sem] def AD4(H):Yi 2000 (Yi 100 H)=Yi 2000 H:=Mb H zd
def NV{lo H a b c d e f}(h:lo=2000):Ye (Ye (Ye (Ye (Ye (Ye (Ye (Yi lo H) 1106 f) 1009 e) 1007 d) 1006 c) 1005 b) 1004 a) 1190 .AR=Ye (Ye (Ye (Ye (Ye (Ye (Yi lo H) 1106 f) 1009 e) 1007 d) 1006 c) 1005 b) 1004 a:=by subst h;funext o;by_cases q:o=1190;subst q;simp[Ye,W6];rw[Zy _ _ q]
def XP{F H xs a}(h:FzL F H xs a):Fz F H (.agg xs) (.agg a):=.agg xs a h.get.1.symm h.get.2
def vl(l:iS):(Zb l).co=Zb l:=by cases l<;>rfl
def dL(G)(hG:Yy G)(b c d e f g P O m x)(hx:EQ m.p x)(hw:m.p.AE.length<=600)(hr:∀ t:Int,0<=t->t<m.p.AE.length->0<=m.p.tg t/\m.p.tg t<m.p.AN.length)(S:m.p.DM)(a j)(hsn:a≠[])(hsl:a.length<1000)(hil:j.length<1000)(first t:Int)(t0:0<=t)(t1:t<m.p.AE.length)(J I F K E H)(q4:H 1004=qC J 0 [Vn b c d e f g m x])(q5:H 1005=qC I 0 [Za P 1 (V.int .i64) (Zb a)])(q6:H 1006=qC F 0 [Za O 1 (V.int .i64) (Zb j)])(q7:H 1007=qC K 0 [t])(q9:H 1009=qC E 0 [first]):MM ai G 2000 106 [.ptr 1004 J 0,.ptr 1007 K 0,.ptr 1005 I 0,.ptr 1009 E 0,.ptr 1006 F 0] H (λs:BB=>[Sk s]) ((m.p.waysL t).flatMap (m.p.strW a first j)):=by
 refine Uh .HF 1100 59 6 [] func106 λX ty cl σ R dom C s0 hy hd hR _=>?_;obtain⟨n,y,rfl,hn',hgy,ey⟩:=m.wyAt t0 t1;have etg:m.p.tg (n:Int)=y.target:=by rw[PM.tg,ey]<;>rfl
 refine BM (We (lo:=2000) (l:=[(0,.func ty [] cl),(1,.ptr 1004 J 0),(2,.ptr 1007 K 0),(3,.ptr 1005 I 0),(4,.ptr 1009 E 0),(5,.ptr 1006 F 0)]) (m:=[(1004,qC J 0 [Vn b c d e f g m x]),(1005,qC I 0 [Za P 1 (V.int .i64) (Zb a)]),(1006,qC F 0 [Za O 1 (V.int .i64) (Zb j)]),(1007,qC K 0 [n]),(1009,qC E 0 [first])]) ⟨rfl,rfl,rfl,rfl,rfl,rfl,AJ⟩ ⟨q4,q5,q6,q7,q9,AJ⟩ rfl) ?_;refine Z ?_;intro r;refine Z ?_;refine Zv ⟨λ_=>.top,λi=>if i=12 then .any else .pure⟩ zk hG zk zk ?_;simp -implicitDefEqProofs only[go_sem,seval,hgy,hn',Tt,Z6,@DS,@GY];refine⟨by rw[W6 zd],λg22=>?_⟩;refine W5 1122 [Vn b c d e f g m x,(m.p.tg n),qE (.mk ab [(n:Int)])] ⟨Zd,by rw[etg];exact Zd,Xm (l:=[(n:Int)]) rfl zp BE,AJ⟩ ?_;refine S5 [Vn b c d e f g m x,(m.p.tg n),qE (.mk ab [(n:Int)])] ⟨Zd,Zd,Zd,AJ⟩ ?_;refine HO [(63,.AR),(64,.AR),(65,.AR)] zk ?_ ((kU G b c d e f g m x _ (.mk ab [(n:Int)])).mono ?_);intro p T;simp only[BY,CL,CF]at T;rcases T with rfl|rfl|rfl;refine Zs ?_;exact W6 zd;refine Zs ?_;exact W6 zd;refine Zs ?_;exact W6 zd;rintro w H' ⟨w3,w4,w5,rfl,e3,e4,e5⟩;simp -implicitDefEqProofs only[go_sem,seval,Yb,e3,e4,e5];refine BK ?_;rw[Ca];refine BM (We (lo:=2000) (B:=H) (l:=[(1,.ptr 1004 J 0),(3,.ptr 1005 I 0),(4,.ptr 1009 E 0),(5,.ptr 1006 F 0),(6,.ptr 1106 r 0),(23,.func (.func 171) [] [.ptr 63 w3 0,.ptr 64 w4 0,.ptr 65 w5 0])])
  (m:=(63,qC w3 0 [Vn b c d e f g m x])::(64,qC w4 0 [(m.p.tg n)])::(65,qC w5 0 [qE (.mk ab [(n:Int)])])::[(1004,qC J 0 [Vn b c d e f g m x]),(1005,qC I 0 [Za P 1 (V.int .i64) (Zb a)]),(1006,qC F 0 [Za O 1 (V.int .i64) (Zb j)]),(1007,qC K 0 [n]),(1009,qC E 0 [first]),(1106,qC r 0 [.func ty [] cl])]) ⟨rfl,rfl,rfl,rfl,rfl,rfl,AJ⟩ ⟨zr,zr,zr,zr,zr,zr,zr,zr,zr,AJ⟩ zp) ?_
 refine AW.range 50 100 1190 1200 (fun w  H=>R w.1 (Yi 2000 H)/\H=Yb (Yi 2000 H) [(1004,qC J 0 [Vn b c d e f g m x]),(1005,qC I 0 [Za P 1 (V.int .i64) (Zb a)]),(1006,qC F 0 [Za O 1 (V.int .i64) (Zb j)]),(1007,qC K 0 [n]),(1009,qC E 0 [first]),(1106,qC r 0 [.func ty [] cl])])
  (HG C (m.p.strW a first j)) jB (λw k=>Oo dom C w.1 (m.p.strW a first j k)/\k∈m.p.waysL n) (s0,ad) rfl zk (by exact λ_ h=>nomatch h) (λp T=>?_) BE zd zd
  (λl r'=>jh G hG b c d e f g m x hx zo hr n t0 t1 w3 w4 w5 _ zp zp zp) (λ_ _ _=>trivial) rfl ?_ (ZJ (ZK hd) λ_ h=>h) ?_ ?_
 simp only[BY,CL,CF]at T;rcases T with rfl|rfl;exact(by decide:24<59);exact(by decide:25<59);refine⟨?_,?_⟩;show R s0 _;refine Zs ?_;exact hR;refine Zs ?_;exact NV rfl
 .rintro l Y ⟨s',b1⟩ ⟨AP,v⟩ Hk _ hrd ⟨hdk,hmem⟩ hjm ⟨rk,hB⟩;simp only at hdk rk;generalize Ye (Yi 100 Hk) 1190 .AR=B at *;cases b1;cases hjm;generalize hM:Yi 2000 B=M at rk hB;subst hB;have Q:Yi 2000 M=M:=by simp -implicitDefEqProofs only[go_sem,seval]at hM;exact hM
  try clear hM
  have hMd:∀ o,o<2000->M o=.AR:=λo ho=>by rw[<- Q,W6 ho]
  refine Xc fU ?_;refine Wo zk ?_;refine Zs ?_;refine CA zk ?_;refine Zs ?_;intro Zx hXZ _;refine BM (Weak.tm (l:=[(1,.ptr 1004 J 0),(3,.ptr 1005 I 0),(4,.ptr 1009 E 0),(5,.ptr 1006 F 0),(6,.ptr 1106 r 0),(7,qE (.mk ab AP)),(8,v)]) ⟨rfl,rfl,rfl,rfl,rfl,rfl,rfl,AJ⟩) ?_;refine BK ?_
  repeat refine Zz ?_
  have wf:=m.p.waysL_ok S t0 t1 _ hmem;have hpl:aa AP<=601:=CT wf.len zo;have hpn:AP≠[]:=Ns _ _ _ _ zS _ hmem;have d1209:=hMd 1209 zd;refine Zv ⟨λi=>if i=1 then qE (Zb a)else qE (.mk ab (j++AP)),λ_=>.pure⟩ zk hG zk zk ?_;refine Xc d1209 ?_;refine⟨⟨zk,?_⟩,⟨zk,?_⟩,λN=>?_⟩;simp -implicitDefEqProofs only[go_sem,seval];exact(Iw G _ _ (by rw[Zl];omega)).mono λv _ e=>by rw[e,vl];simp -implicitDefEqProofs only[go_sem,seval]
  simp -implicitDefEqProofs only[go_sem,seval];exact(E6 G hG _ _ _ _ (by rw[Zl];omega) (by show aa AP<_;omega) (by have:=JH.2 hpn;show _+aa AP≠0;omega)).mono λv _ e=>by rw[e,Zl];simp -implicitDefEqProofs only[go_sem,seval]
  have hip:j++AP≠[]:=λh=>hpn (OP.1 h).2;rw[<- Mg hip,<- Mg hpn];by_cases hv:v = -1;have hv1:(v != -1)=ab:=by rw[hv]<;>rfl
  rw[Am _ _ _ _ _ (λh=>h.1 hv)]at hdk;refine Zf hv1 ?_;intro L;have A:HG C (m.p.strW a first j) (s',ad) (AP,v)=((C s' ⟨a,first,AP,j++AP,[(v,[])]⟩).2,(C s' ⟨a,first,AP,j++AP,[(v,[])]⟩).1):=by show((Y4 C s' _).2,(Y4 C s' _).1)=_;rw[Am _ _ _ _ _ (λh=>h.1 hv),Iq]
  refine Vm [2] zk (by rfl) ?_;simp -implicitDefEqProofs only[go_sem,seval,I4];refine⟨_,rfl,?_⟩;refine MF (Cp (lo:=2000) (B:=M) (λo=>o==1252) (l:=[(54,.func ty [] cl),(55,.agg [qE (Zb a),first,qE (Zb AP),qE (Zb (j++AP)),Vf .new [(v,[])],.AG])]) (m:=[(1004,qC J 0 [Vn b c d e f g m x]),(1005,qC I 0 [Za P 1 (V.int .i64) (Zb a)]),(1006,qC F 0 [Za O 1 (V.int .i64) (Zb j)]),(1007,qC K 0 [n]),(1009,qC E 0 [first]),(1106,qC r 0 [.func ty [] cl])])
   (λo ho=>zO) (by
    refine Zs ?_;exact⟨Zd,XP ⟨Zd,Zd,Zd,Zd,Xm (f:=Uu .new) (l:=[(v,[])]) rfl zp (UV _),Zd,AJ⟩⟩) (λp T=>by simp only[BY,CL,CF]at T;rcases T with rfl|rfl|rfl|rfl|rfl|rfl<;>rfl) ⟨zp,zp,zp,zp,zp,zp,AJ⟩ zp) rfl ?_
  refine MF (Qx (lo:=2000) (B:=M) (l:=[(54,.func ty [] cl),(55,Sk ⟨a,first,AP,j++AP,[(v,[])]⟩)]) (m:=[(1004,qC J 0 [Vn b c d e f g m x]),(1005,qC I 0 [Za P 1 (V.int .i64) (Zb a)]),(1006,qC F 0 [Za O 1 (V.int .i64) (Zb j)]),(1007,qC K 0 [n]),(1009,qC E 0 [first]),(1106,qC r 0 [.func ty [] cl])])
   (by refine Zs ?_;exact⟨Zd,Zd⟩) ⟨zp,zp,zp,zp,zp,zp,AJ⟩ zp) rfl (Po (hy.at hXZ) s' ⟨a,first,AP,j++AP,[(v,[])]⟩ rfl zm hdk.1 ?_ (λW D u=>?_) zk (n:=2) rfl zp)
  refine Zs ?_;rw[Q];exact rk;have e1:=u 1004 zd;have e2:=u 1005 zd;have e3:=u 1006 zd;have e4:=u 1007 zd;have e5:=u 1009 zd;have e6:=u 1106 zd;simp -implicitDefEqProofs only[go_sem,seval]at e1 e2 e3 e4 e5 e6;generalize C s' ⟨a,first,AP,j++AP,[(v,[])]⟩=z at D A⊢;obtain⟨bb,s3⟩:=z;refine Zs ?_;refine BM (We (lo:=2000) (B:=W) (l:=[(10,bb)]) (m:=[(1004,qC J 0 [Vn b c d e f g m x]),(1005,qC I 0 [Za P 1 (V.int .i64) (Zb a)]),(1006,qC F 0 [Za O 1 (V.int .i64) (Zb j)]),(1007,qC K 0 [n]),(1009,qC E 0 [first]),(1106,qC r 0 [.func ty [] cl])]) ⟨rfl,AJ⟩ ⟨e1,e2,e3,e4,e5,e6,AJ⟩ rfl) ?_;cases bb;refine Z ?_;refine FU ?_;refine Zs ?_;rw[A];exact⟨rfl,D,NV rfl⟩;refine Z ?_;rw[A];exact⟨rfl,D,NV rfl⟩;have hv1:(v != -1)=ad:=by simp[bne,hv]
  obtain⟨v0,v1⟩:0<=v/\v<aa m.p.AN:=by rcases wf.fo with h|h;exact absurd h hv;exact h.1
  refine Zf hv1 ?_;refine Zc hG ?_ (s:=pg G hG _ _ _ _ _ _ m _ (hx.rc _) zo v v0 v1);cases q:m.p.allP v;have hnf:¬(v ≠ -1/\m.p.allP v=ad):=λh=>by rw[q]at h;cases h.2
  rw[Am _ _ _ _ _ hnf]at hdk;refine Zf q ?_;intro L;have A:HG C (m.p.strW a first j) (s',ad) (AP,v)=((C s' ⟨a,first,AP,j++AP,[(v,[])]⟩).2,(C s' ⟨a,first,AP,j++AP,[(v,[])]⟩).1):=by show((Y4 C s' _).2,(Y4 C s' _).1)=_;rw[Am _ _ _ _ _ hnf,Iq]
  refine Vm [2] zk (by rfl) ?_;simp -implicitDefEqProofs only[go_sem,seval,I4];refine⟨_,rfl,?_⟩;refine MF (Cp (lo:=2000) (B:=M) (λo=>o==1252) (l:=[(54,.func ty [] cl),(55,.agg [qE (Zb a),first,qE (Zb AP),qE (Zb (j++AP)),Vf .new [(v,[])],.AG])]) (m:=[(1004,qC J 0 [Vn b c d e f g m x]),(1005,qC I 0 [Za P 1 (V.int .i64) (Zb a)]),(1006,qC F 0 [Za O 1 (V.int .i64) (Zb j)]),(1007,qC K 0 [n]),(1009,qC E 0 [first]),(1106,qC r 0 [.func ty [] cl])])
   (λo ho=>zO) (by
    refine Zs ?_;exact⟨Zd,XP ⟨Zd,Zd,Zd,Zd,Xm (f:=Uu .new) (l:=[(v,[])]) rfl zp (UV _),Zd,AJ⟩⟩) (λp T=>by simp only[BY,CL,CF]at T;rcases T with rfl|rfl|rfl|rfl|rfl|rfl<;>rfl) ⟨zp,zp,zp,zp,zp,zp,AJ⟩ zp) rfl ?_
  refine MF (Qx (lo:=2000) (B:=M) (l:=[(54,.func ty [] cl),(55,Sk ⟨a,first,AP,j++AP,[(v,[])]⟩)]) (m:=[(1004,qC J 0 [Vn b c d e f g m x]),(1005,qC I 0 [Za P 1 (V.int .i64) (Zb a)]),(1006,qC F 0 [Za O 1 (V.int .i64) (Zb j)]),(1007,qC K 0 [n]),(1009,qC E 0 [first]),(1106,qC r 0 [.func ty [] cl])])
   (by refine Zs ?_;exact⟨Zd,Zd⟩) ⟨zp,zp,zp,zp,zp,zp,AJ⟩ zp) rfl (Po (hy.at hXZ) s' ⟨a,first,AP,j++AP,[(v,[])]⟩ rfl zm hdk.1 ?_ (λW D u=>?_) zk (n:=2) rfl zp)
  refine Zs ?_;rw[Q];exact rk;have e1:=u 1004 zd;have e2:=u 1005 zd;have e3:=u 1006 zd;have e4:=u 1007 zd;have e5:=u 1009 zd;have e6:=u 1106 zd;simp -implicitDefEqProofs only[go_sem,seval]at e1 e2 e3 e4 e5 e6;generalize C s' ⟨a,first,AP,j++AP,[(v,[])]⟩=z at D A⊢;obtain⟨bb,s3⟩:=z;refine Zs ?_;refine BM (We (lo:=2000) (B:=W) (l:=[(10,bb)]) (m:=[(1004,qC J 0 [Vn b c d e f g m x]),(1005,qC I 0 [Za P 1 (V.int .i64) (Zb a)]),(1006,qC F 0 [Za O 1 (V.int .i64) (Zb j)]),(1007,qC K 0 [n]),(1009,qC E 0 [first]),(1106,qC r 0 [.func ty [] cl])]) ⟨rfl,AJ⟩ ⟨e1,e2,e3,e4,e5,e6,AJ⟩ rfl) ?_;cases bb;refine Z ?_;refine FU ?_;refine Zs ?_;rw[A];exact⟨rfl,D,NV rfl⟩;refine Z ?_;rw[A];exact⟨rfl,D,NV rfl⟩;have hf:v ≠ -1/\m.p.allP v=ad:=⟨hv,q⟩;rw[jq _ _ _ _ _ hf]at hdk;have houts:m.p.outI v≠[]:=by intro h0;unfold PM.allP at q;rw[F_,BP,h0]at q;rcases q with q|⟨_,q⟩;have:=S.GX v v0 v1 (zu q);rw[h0]at this;cases this;simp at q
  obtain⟨nv,pv,ev,hkv,hgv,_,_,_,_,hov,_⟩:=hx.at v0 v1;have hco:pv.out.co=.mk ab (m.p.outI v):=by rcases h:pv.out with _|⟨b,l⟩;rw[h]at hov;exact absurd hov.symm houts;rw[h]at hov;rw[<- hov]<;>rfl
  have hlo:aa (m.p.outI v)<=512:=CT (PM.wysI_len _ _ _) S.lw;let b0:BB:=⟨a,first,AP,j++AP,[]⟩;refine Xc q ?_;refine W7 rfl ?_;refine Bw 8 ⟨λ_=>qE (.mk ab (m.p.outI v)),λ_=>.pure⟩ zk hG zk zk zk zk ?_;refine Xc @Tt ?_;refine⟨⟨zk,?_⟩,_,rfl,?_⟩;simp -implicitDefEqProofs only[go_sem,seval];have:=fQ G hG e.ent f.ent g.ent (x.rc AH.ent) m.p (hx.rc _) zo nv pv hgv (by rw[<- ev];exact v1);rw[<- ev,hco]at this;exact this.mono λv _ e=>by rw[e];simp -implicitDefEqProofs only[go_sem,seval]
  have A:HG C (m.p.strW a first j) (s',ad) (AP,v)=((Y4 (λs es=>C s (b0.GX es)) s' (m.p.forkF (m.p.outI v) [])).2,(Y4 (λs es=>C s (b0.GX es)) s' (m.p.forkF (m.p.outI v) [])).1):=by show((Y4 C s' _).2,(Y4 C s' _).1)=_;rw[jq _ _ _ _ _ hf,kn]
  refine MF (Qx (lo:=2000) (B:=M) (l:=[(41,Vn b c d e f g m x),(47,qE (.mk ab (m.p.outI v))),(48,.func (.func 111) [] [.ptr 1209 N 0,.ptr 1106 r 0])])
   (m:=[(1004,qC J 0 [Vn b c d e f g m x]),(1005,qC I 0 [Za P 1 (V.int .i64) (Zb a)]),(1006,qC F 0 [Za O 1 (V.int .i64) (Zb j)]),(1007,qC K 0 [n]),(1009,qC E 0 [first]),(1106,qC r 0 [.func ty [] cl]),(1209,qC N 0 [qE (Zb b0.BN),b0.first,qE (Zb b0.DU),qE (Zb b0.DE),.AG,.AG])])
   (by refine Zs ?_;exact⟨Zd,Zd,Zd⟩) ⟨zr,zr,zr,zr,zr,zr,zr,AJ⟩ zp) rfl ?_
  refine E0 1000 ql (ABA G hG m x hx zo hr (m.p.outI v) [] ab b c d e f g .new _ (λt ht=>(PM.mem_out.1 ht).1) zO) zk
   (λX' hle=>oZ G hG ((hy.at hXZ).at hle) b0 hpn J I F K E r N (Vn b c d e f g m x) (Za P 1 (V.int .i64) (Zb a)) (Za O 1 (V.int .i64) (Zb j)) n first) s' rfl ?_ (gM hdk λes hes=>?_) ?_ (λW D u=>?_) zk (n:=8) rfl zp (λ_ _ _=>trivial)
  refine Xc @Tt ?_;rfl;obtain⟨f1,f2⟩:=m.p.forkF_ok (m.p.outI v) [] es hes;have f3:=PM.flat_le (n:=513) es λe' he'=>by rcases f2 e' he' with h|⟨o,ho,h⟩;cases h;have:=(PM.mem_out.1 ho).1;exact CT (m.p.waysL_ok S this.1 this.2 _ h).len (by have:=S.lw;omega)
  have f4:aa es<=512:=by rw[f1];simpa using hlo
  refine⟨?_,zo⟩;show aa (AP++_)<_;rw[BQ];have:aa es*513<=512*513:=O' _ f4;omega;refine⟨?_,?_⟩;refine Zs ?_;rw[Q];exact rk;exact zp;obtain⟨hR3,hE⟩:=D;generalize Y4 (λs es=>C s (b0.GX es)) s' (m.p.forkF (m.p.outI v) [])=z at hR3 A⊢;obtain⟨bb,s3⟩:=z;refine Zs ?_;refine BM (We (lo:=1000) (B:=W) (l:=[(10,bb)]) (m:=[]) ⟨rfl,AJ⟩ trivial rfl) ?_;generalize hM2:Yi 2000 (Yi 1000 W)=M2 at hR3 hE;have hM3:Yi 2000 M2=M2:=by rw[<- hM2,Dy]
  unfold Hs.stM;rw[show Yb (Yi 1000 W) []=Yi 1000 W from rfl,hE];refine BM (We (lo:=2000) (B:=M2) (l:=[(10,bb)]) (m:=[(1004,qC J 0 [Vn b c d e f g m x]),(1005,qC I 0 [Za P 1 (V.int .i64) (Zb a)]),(1006,qC F 0 [Za O 1 (V.int .i64) (Zb j)]),(1007,qC K 0 [n]),(1009,qC E 0 [first]),(1106,qC r 0 [.func ty [] cl])]) ⟨rfl,AJ⟩ ⟨zp,zp,zp,zp,zp,zp,AJ⟩ zp) ?_;cases bb;refine Z ?_;refine FU ?_;refine Zs ?_;rw[A,hM3];refine⟨rfl,hR3,?_⟩;rw[<- hM3];exact NV rfl;refine Z ?_;rw[A,hM3];refine⟨rfl,hR3,?_⟩;rw[<- hM3];exact NV rfl
 rintro W ⟨U,hH⟩ _ _;generalize(Y4 (λw k=>((jB (HG C (m.p.strW a first j) w k)).isNone,HG C (m.p.strW a first j) w k)) (s0,ad) (m.p.waysL (n:Int))).2=z at U⊢;generalize hM:Yi 2000 (Ye (Yi 100 W) 1190 .AR)=M at U hH;have Q:Yi 2000 M=M:=by rw[<- hM,Dy]
 obtain⟨s2',b2⟩:=z;have hM2:M=Yi 2000 W:=by rw[<- hM];simp -implicitDefEqProofs only[go_sem,seval]
 cases b2;refine BM (JA (l:=[]) hH trivial) ?_;refine Z ?_;refine⟨.inr trivial,?_⟩;refine Zs ?_;rw[Q];exact U;refine⟨_,rfl,.inr trivial,?_⟩;rw[hM2]at U;exact U
def Ku(G b c d e f g k j m x)(a h:iS)(t:Int):InSp ai G 50 [Vn b c d e f g m x,Za k 1 () (Zb a),Za j 1 () (Zb h),t] (Yb Zm [(1004,.AR),(1005,.AR),(1006,.AR),(1007,.AR),(1009,.AR)])
  (λw H'=>∃ g4 g5 g6 g7 g9,w=.func (.func 106) [] [.ptr 1004 g4 0,.ptr 1007 g7 0,.ptr 1005 g5 0,.ptr 1009 g9 0,.ptr 1006 g6 0]/\H' 1004=qC g4 0 [Vn b c d e f g m x]/\H' 1005=qC g5 0 [Za k 1 () (Zb a)] /\
   H' 1006=qC g6 0 [Za j 1 () (Zb h)]/\H' 1007=qC g7 0 [t]/\H' 1009=qC g9 0 [(h.headD t)]):=by
 refine Wx 1000 18 _ func50 rfl rfl rfl rfl λX=>?_;simp only[Yb];refine Z ?_;intro g4 g5 g6 g7;refine Z ?_;intro g9;rcases h with _|⟨o,r⟩;refine Z ?_;exact⟨g4,g5,g6,g7,g9,rfl,zr,zr,zr,zr,zr⟩;have i:=zU (((aa r+1:Nat):Int)>0);have n:(o::r)[0]?=ae o:=rfl;have l:0<aa r+1:=PB _;refine Zf (j3 i n l) ?_;exact⟨g4,g5,g6,g7,g9,rfl,zr,zr,zr,zr,zr⟩
def wF(G)(e:Yy G)(b c d x m)(f:EQ m x)(g:m.AE.length<1000000)(n:Nat)(p)(a:x.places.l[n]?=ae p)(k:(n:Int)<m.AN.length):Spec () G 48 [I5 b c d x,n] Zm (qE p.DN.co):=by
 refine Zo 0 18 _ func48 λX=>?_;have i:=(DG.1 a).1;have j:(decide ((0:Int)<=(n:Int))&&decide ((n:Int)<aa x.places.l))=ad:=by rw[BP];exact⟨zT,zT⟩
 refine Z ?_;refine Zc e ?_ (s:=Tv G _ _ _ _ _);refine Zg (j6 j a i Sa Pc Ya) ?_;have h:aa p.DN.l<1000000:=by rw[f.DN n p a,PM.intoI];exact TO (PM.wysI_len _ _ _) g
 refine Zc e ?_ (s:=Iw G _ _ h);exact Zr
def iQ(G H):MM ai G 2000 52 [] H (λs:BB=>[Sk s]) []:=by refine Uh _ 0 2 1 [] func52 λX ty cl σ R b d c e f a _=>?_;refine EP ?_;exact⟨_,rfl,.inr rfl,a⟩
def ABq(k):[(1:Int),3,4,8,9].contains k=decide (k=1\/k=3\/k=4\/k=8\/k=9):=by rw[FW,HS,CM];simp only[BY,CL,CF]
def y8(G)(C:Yy G)(b c d e f g m x)(hx:EQ m.p x)(hw:m.p.AE.length<=600)(u:m.p.DM)(t:Int)(t0:0<=t)(t1:t<m.p.AE.length):InSp ai G 21 [Vn b c d e f g m x,t] (Yb Zm [(1004,.AR),(1005,.AR),(1006,.AR),(1007,.AR),(1009,.AR)])
   (λw H'=>∃ fid caps,w=.func (.func fid) [] caps/\Yf ai fid=ad/\∀ H,H 1004=(H' 1004).noMp->H 1005=(H' 1005).noMp->H 1006=(H' 1006).noMp->H 1007=(H' 1007).noMp->H 1009=(H' 1009).noMp->MM ai G 2000 fid caps H (λs:BB=>[Sk s]) (m.p.beginL t)):=by
 refine Wx 1100 90 _ func21 rfl rfl rfl rfl λX=>?_;simp only[Yb];obtain⟨D,q⟩:=u.tg t t0 t1;obtain⟨sc0,sc1⟩:=u.sc t t0 t1;obtain⟨n,y,rfl,hn',hgy,ey⟩:=m.wyAt t0 t1;have B:m.p.tg (n:Int)=y.target:=by rw[PM.tg,ey]<;>rfl
 have esc:m.p.sc (n:Int)=y.AV:=by rw[PM.sc,ey]<;>rfl
 obtain⟨nv,Q,ev,hkv,hgv,_,_,_,_,E,F⟩:=hx.at D q;refine Zf (j5 hgy hn' Z6 Tt Ya) ?_;intro j;refine Z ?_;refine Zv ⟨λ_=>qE Q.DN.co,λ_=>.pure⟩ zk C zk zk ?_;refine Zs ?_;refine⟨⟨zk,?_⟩,?_⟩;simp -implicitDefEqProofs only[go_sem,seval];have:=wF G C e.ent f.ent g.ent (x.rc AH.ent) m.p (hx.rc _) zo nv Q hgv (by rw[<- ev];exact q);rw[<- ev,B]at this;exact this.mono λv _ e=>by rw[e];simp -implicitDefEqProofs only[go_sem,seval]
 rw[B]at D q ev F E;refine Z ?_;intro g1129;refine W5 1129 [Vn b c d e f g m x,y.target,Za .new 1 (V.int .u8) (.mk ab [7])] ⟨Zd,Zd,?_,AJ⟩ ?_;exact Xm (l:=[7]) rfl zp λ_=>rfl;refine Zc C ?_ (s:=T8 G C _ _ _ _ _ _ _ m _ y.target D q _ zd);rw[KS];have e7:m.p.kd (m.p.tg n)=m.p.kd y.target:=by rw[B]
 have e8:m.p.kd (m.p.sc n)=m.p.kd y.AV:=by rw[esc]
 rw[esc]at sc0 sc1;cases M:(m.p.kd y.target==7);have h7:¬m.p.kd (m.p.tg n)=7:=by rw[e7];simpa using M
 refine Zg M ?_;intro A;refine W5 1174 [Vn b c d e f g m x,y.target,Za .new 1 (V.int .u8) (.mk ab [7])] ⟨Zd,Zd,?_,AJ⟩ ?_;exact Xm (f:=V.int .u8) (l:=[7]) rfl zp λ_=>rfl;refine Zc C ?_ (s:=T8 G C _ _ _ _ _ _ _ m _ y.target D q _ zd);rw[KS];refine Zg M ?_;intro Y;refine W5 1181 [Vn b c d e f g m x,y.AV,Za .new 1 (V.int .u8) (.mk ab [1,3,4,8,9])] ⟨Zd,Zd,?_,AJ⟩ ?_;exact Xm (f:=V.int .u8) (l:=[1,3,4,8,9]) rfl zp λ_=>rfl;refine Zc C ?_ (s:=T8 G C _ _ _ _ _ _ _ m _ y.AV sc0 sc1 _ zd);rw[ABq];by_cases h8:m.p.kd y.AV=1\/m.p.kd y.AV=3\/m.p.kd y.AV=4\/m.p.kd y.AV=8\/m.p.kd y.AV=9;have q8:decide (m.p.kd y.AV=1\/m.p.kd y.AV=3\/m.p.kd y.AV=4\/m.p.kd y.AV=8\/m.p.kd y.AV=9)=ad:=EI h8;have O:m.p.beginL n=m.p.strL [y.AV] [] n:=by rw[PM.beginL,AA h7,e8,AF h8,esc]
 rw[O];refine Zg q8 ?_;intro W;refine W5 1187 [Vn b c d e f g m x,qE (Zb [y.AV]),qE (Zb []),n] ⟨Zd,Xm (f:=V.int .i64) (l:=[y.AV]) rfl zp BE,Zd,Zd,AJ⟩ ?_;refine HO [(1004,.AR),(1005,.AR),(1006,.AR),(1007,.AR),(1009,.AR)] zk ?_ ((Ku G b c d e f g .new .new m x [y.AV] [] n).mono ?_);intro p hp;simp only[BY,CL,CF]at hp;rcases hp with rfl|rfl|rfl|rfl|rfl<;>rfl;rintro w H' ⟨a4,a5,a6,a7,a9,rfl,q4,q5,q6,P,J⟩;simp -implicitDefEqProofs only[go_sem,seval,Yb,q4,q5,q6,P,J];refine Z ?_;exact⟨_,_,rfl,zk,λH h4 h5 h6 U h9=>dL G C b c d e f g .new .new m x hx hw u.tg u [y.AV] [] zS (show 1<1000 by decide) (show 0<1000 by decide) n n t0 t1 a4 a5 a6 a7 a9 H (h4.trans zr) (h5.trans zr) (h6.trans zr) (U.trans zr) (h9.trans zr)⟩;have q8:decide (m.p.kd y.AV=1\/m.p.kd y.AV=3\/m.p.kd y.AV=4\/m.p.kd y.AV=8\/m.p.kd y.AV=9)=ab:=GC h8;have O:m.p.beginL n=[]:=by rw[PM.beginL,AA h7,e8,AA h8]
 rw[O];refine Zg q8 ?_;exact⟨_,_,rfl,zk,λH _ _ _ _ _=>iQ G H⟩;have h7:m.p.kd (m.p.tg n)=7:=by rw[e7];simpa using M
 obtain⟨j1,j2,_⟩:=u.VI _ D q (zu M);rw[<- B]at j1 j2;have z:∃ a r,m.p.intoI (m.p.tg n)=a::r:=by rcases h:m.p.intoI (m.p.tg n) with _|⟨a,r⟩;rw[h]at j2;cases j2;exact⟨a,r,rfl⟩
 obtain⟨a,r,z⟩:=z;rw[<- B,z]at F;have hco:Q.DN.co=.mk ab (a::r):=by rcases h:Q.DN with _|⟨b,l⟩;rw[h]at F;cases F;rw[h]at F;rw[<- F]<;>rfl
 have h0:(a::r)[0]?=ae a:=rfl;have R:0<aa r+1:=PB _;rw[hco];cases J:(a==(n:Int));have O:m.p.beginL n=[]:=by rw[PM.beginL,AF h7,z,AA];intro h;rw[show(a::r).headD (-1)=a from rfl]at h;rw[h]at J;simp at J
 rw[O];refine Zg (j4 M J h0 R) ?_;intro A;refine W5 1174 [Vn b c d e f g m x,y.target,Za .new 1 (V.int .u8) (.mk ab [7])] ⟨Zd,Zd,?_,AJ⟩ ?_;exact Xm (f:=V.int .u8) (l:=[7]) rfl zp λ_=>rfl;refine Zc C ?_ (s:=T8 G C _ _ _ _ _ _ _ m _ y.target D q _ zd);rw[KS];refine Zg M ?_;exact⟨_,_,rfl,zk,λH _ _ _ _ _=>iQ G H⟩
 .have hi0:a=n:=zu J;have O:m.p.beginL n=m.p.strL ((a::r).map m.p.sc) (a::r) ((m.p.outI (m.p.tg n)).headD 0):=by rw[PM.beginL,AF h7,z,AF (show(a::r).headD (-1)=n from hi0)]
  have hl:aa (a::r)<=600:=by rw[<- z];exact CT (PM.wysI_len _ _ _) hw
  have hrg:∀ t∈a::r,0<=t/\t<aa m.p.AE:=λt ht=>by rw[<- z]at ht;exact(PM.mem_into.1 ht).1
  refine Zg (j4 M J h0 R) ?_;rw[O];have hl0:(a::r)≠[]:=zS
  try clear J O h0 R
  have h0:aa (a::r)=aa r+1:=rfl;rw[<- h0];generalize a::r=l at *;refine Wy (aa l) (λk  gg=>st [(0,Vn b c d e f g m x),(5,.ptr 1105 j 0),(6,qE (.mk ab l)),(7,AZ 1155 gg 1 ((l.take k).map m.p.sc)),(38,qE (.mk ab l)),(39,aa l),(40,k)] [(1105,(qC j 0 [y.name,y.AV,y.target,Za d 1 V.AB y.C_,y.after,y.guard,y.DT,.int .u8 y.AD])),(1155,Z9 gg (V.int .i64) ((l.take k).map m.p.sc))])
   (λ_ _=>True) 0 0 qz trivial (AO ⟨rfl,rfl,zp,zp,zp,zp,zp,AJ⟩ ⟨zr,zr,AJ⟩) ?_
  intro k gg hk _ L hL;by_cases K:k<aa l;have T:=zU ((k:Int)<(aa l:Int));have hg:=AY K;have htk:(l.take (k+1)).map m.p.sc=(l.take k).map m.p.sc++[m.p.sc l[k]]:=by rw[IZ,hg,DL]<;>rfl
  have N:=BT K;generalize l[k]=tt at hg htk N;obtain⟨tt0,tt1⟩:=hrg tt N;obtain⟨n2,y2,rfl,hn2,hgy2,ey2⟩:=m.wyAt tt0 tt1;have esc2:m.p.sc (n2:Int)=y2.AV:=by rw[PM.sc,ey2]<;>rfl
  have w1:=wQ ((k:Int)+1);refine Zf (j8 T hg K hgy2 hn2 Z6 Tt Ya) ?_;intro g1154;refine Yg (f:=V.int .i64) (l:=(l.take k).map m.p.sc) (l2:=[y2.AV]) BE rfl rfl rfl zp (Z3 zo zO) λg2=>?_;rw[<- esc2,<- htk];refine Zf w1 ?_;refine hL _ ⟨K,g2,AJ,AO ⟨rfl,zp,zp,zp,zp,zp,zp,AJ⟩ ⟨zp,zp,AJ⟩⟩;have hke:k=aa l:=zo;subst hke;rw[B_];have T:=zV ((aa l:Int)<(aa l:Int));obtain⟨I,S⟩:∃ I,m.p.outI y.target=[I]:=by rw[B]at j1;rcases h:m.p.outI y.target with _|⟨I,r'⟩;rw[h]at j1;cases j1;rw[h]at j1;cases r';exact⟨I,rfl⟩;simp at j1
  obtain⟨o0,o2⟩:=(PM.mem_out.1 (show I∈m.p.outI y.target by rw[S];exact GA ..)).1;rw[S]at E;have hoc:Q.out.co=.mk ab [I]:=by rcases h:Q.out with _|⟨b,l⟩;rw[h]at E;cases E;rw[h]at E;rw[<- E]<;>rfl
  rw[B,S];refine BM (Z4 (λo=>o==1155) (l:=[(0,Vn b c d e f g m x),(5,.ptr 1105 j 0),(6,qE (Zb l)),(7,qE (Zb (l.map m.p.sc))),(39,aa l),(40,aa l)]) (m:=[(1105,(qC j 0 [y.name,y.AV,y.target,Za d 1 V.AB y.C_,y.after,y.guard,y.DT,.int .u8 y.AD]))]) ?_ ?_) ?_;rw[Mg hl0];refine Zs ?_;exact⟨Zd,Zd,Zd,Yp (l:=l.map m.p.sc) (f:=V.int .i64) rfl zp BE,Zd⟩;simp only[Z2,Z5,CE];exact DR rfl;refine Zf T ?_;refine Zv ⟨λ_=>qE (.mk ab [I]),λi=>if i=12 then .any else .pure⟩ zk C zk zk ?_;have h00:[I][0]?=ae I:=rfl;refine Xc (zi @Tt h00) ?_;refine⟨⟨zk,?_⟩,?_⟩;simp -implicitDefEqProofs only[go_sem,seval];have:=fQ G C e.ent f.ent g.ent (x.rc AH.ent) m.p (hx.rc _) zo nv Q hgv (by rw[<- ev];exact q);rw[<- ev,hoc]at this;exact this.mono λv _ e=>by rw[e];simp -implicitDefEqProofs only[go_sem,seval]
  refine HO [(1004,.AR),(1005,.AR),(1006,.AR),(1007,.AR),(1009,.AR)] zk ?_ ((Ku G b c d e f g .new .new m x (l.map m.p.sc) l I).mono ?_);intro p hp;simp only[BY,CL,CF]at hp;rcases hp with rfl|rfl|rfl|rfl|rfl<;>rfl;rintro w H' ⟨a4,a5,a6,a7,a9,rfl,q4,q5,q6,P,J⟩;simp -implicitDefEqProofs only[go_sem,seval,Yb,q4,q5,q6,P,J];refine Z ?_;exact⟨_,_,rfl,zk,λH h4 h5 h6 U h9=>dL G C b c d e f g .new .new m x hx hw u.tg u (l.map m.p.sc) l (zu hl0) (by rw[BC];omega) zo (l.headD I) I o0 o2 a4 a5 a6 a7 a9 H (h4.trans zr) (h5.trans zr) (h6.trans zr) (U.trans zr) (h9.trans zr)⟩
def Wt(c:AH)(q:BB×iS):V:=.agg [Za c 1 () (Zb q.1.BN),qI q.1.first,Za c 1 () (Zb q.1.DU),Za c 1 () (Zb q.1.DE),Vf c q.1.AT,Za c 1 () (Zb q.2)]
def Xl(c q):Wt c q=.agg [Za c 1 () (Zb q.1.BN),qI q.1.first,Za c 1 () (Zb q.1.DU),Za c 1 () (Zb q.1.DE),Vf c q.1.AT,Za c 1 () (Zb q.2)]:=rfl
def Sf(c:AH)(q:BB×V):V:=.agg [Za c 1 () (Zb q.1.BN),qI q.1.first,Za c 1 () (Zb q.1.DU),Za c 1 () (Zb q.1.DE),Vf c q.1.AT,q.2]
def Q3(c q):Sf c q=.agg [Za c 1 () (Zb q.1.BN),qI q.1.first,Za c 1 () (Zb q.1.DU),Za c 1 () (Zb q.1.DE),Vf c q.1.AT,q.2]:=rfl
def J_(c:AH)(q:BB×iS):BB×V:=(q.1,Za c 1 () (Zb q.2))
@[go_sem] def U7(g c q):(Wt c q).recol g=Wt (g c) q:=by simp only[Xl,X9,BI,BV,Xr,Xv,XB]
def Sl.map{α β}(f:α->β):Sl α->Sl β
 |.nil=>.nil|.mk b l=>.mk b (l.map f)
def fW(c c1 s):Za c 6 (Wt c1) s=Za c 6 (Sf c1) (s.map (J_ c1)):=by rcases s with _|⟨b,l⟩;rfl;show V.slice c b 6 _=V.slice c b 6 _;rw[EL]<;>rfl
def To{β:Type}(L:List (BB × β))(v:Int)(k:Nat):iS:=((aE k).filter λi=>match L[i]? with|some s=>s.1.BN.contains v|none=>ab).map fun(i:Nat)=>(i:Int)
def D8{β}(L:List (BB × β))(v k):(To L v k).length<=k:=by unfold To;rw[BC];exact CT (IJ _ _) (by rw[HV];exact BO _)
def gN{β}(L v k){s:BB × β}(h:L[k]?=ae s):To L v (k+1)=if s.1.BN.contains v=ad then To L v k++[(k:Int)]else To L v k:=by unfold To;rw[HW,HH,DL];cases q:s.1.BN.contains v;rw[JG (by simp[h];simpa using q)];simp;rw[KH (by simp[h];simpa using q)];simp
def D7(G)(t:Yy G)(c c1 a)(v:Int)(B:a.l.length<100000)(x:∀ s∈a.l,s.1.BN.length<100000):Spec () G 11 [Za c 6 (Sf c1) a,v] Zm (qE (Zb (To a.l v a.l.length))):=by refine Zo 0 25 _ func11 λX=>?_;refine Z ?_;refine Z8 [1,8,9] [] (aa a.l) (λk  g=>[(5,AZ 22 g 1 (To a.l v k)),(10,k)]) (λk g=>[(22,Z9 g (V.int .i64) (To a.l v k))]) (λ_ _=>True) 0 0 qz trivial zp zp ?_;intro k g C _ L r;by_cases b:k<aa a.l;have h:=zU _;have n:=AY b;have e:=BT b;have y:=D8 a.l v k;generalize a.l[k]=s at n e;have u:=x s e;have d:=gN a.l v k n;have p:=wQ ((k:Int)+1);refine Zf (j5 h n b Q3 Ya) ?_;intro D;refine Z ?_;refine Zc t ?_ (s:=Iv G t _ _ _ (by rw[Zl];omega));cases q:s.1.BN.contains v;rw[q,AA zS]at d;refine Zf (zi q p) ?_;exact r _ ⟨b,g,AJ,AO (by rw[d];exact zp) (by rw[d];exact zp)⟩;rw[q,AF rfl]at d;refine Zf q ?_;intro z;refine Yg (f:=V.int .i64) (l:=To a.l v k) (l2:=[(k:Int)]) BE rfl rfl rfl zp (Z3 zo zO) λA=>?_;rw[<- d];refine Zf p ?_;exact r _ ⟨b,A,AJ,AO zp zp⟩;have j:k=aa a.l:=zo;rw[j];have h:=zV ((aa a.l:Int)<(aa a.l:Int));generalize To a.l v (aa a.l)=i;refine BM (Z4 (λo=>o==22) (l:=[(5,qE (Zb i)),(9,aa a.l),(10,aa a.l)]) (m:=[]) ?_ trivial) ?_;refine Zs ?_;exact⟨Yp (l:=i) (f:=V.int .i64) rfl zp BE,Zd⟩;exact Zq h
def qQ(f):∀ l,Xd f l=l.map (V.recol f)
 |[]=>rfl|v::r=>by rw[BI,<- qQ f r]<;>rfl
def uS(G)(z:Yy G)(c d)(C:List V->Prop)(A:∀ a,C a->C (a.map (V.recol AH.ent)))(a)(n:C a)(m:Yf ai d=ad)(p s)(B:s.l.length<1000000)(j:∀ v∈s.l,∀ a,C a->Spec () G d (qI v::a) Zm (p v)):Spec () G 118 [Za c 1 () s,.func (.func d) [] a] Zm (Oy p s.l):=by
 have u:=λv h=>j v h _ (A a n);refine Zo 0 19 [.tmp 4] func118 λX=>?_;refine Z ?_;refine Z8 [0,1,7] [] (aa s.l) (λk  _=>[(8,k)]) (λ_ _=>[]) (λk _=>∀ y∈s.l.take k,p y=ab) 0 () qz zS zp zp ?_;intro k _ D g E o;by_cases b:k<aa s.l
 .have e:=zU ((k:Int)<(aa s.l:Int));have f:=AY b;have q:=u s.l[k] (BT b);generalize s.l[k]=x at f q;refine Zf (j5 e f b b Ya) ?_;refine GS z m ?_;refine(show Spec () G d (((qI x::a):List V).map (V.recol AH.ent)) Zm _ from ?_);rw[show((qI x::a):List V).map (V.recol AH.ent)=(qI x::a.map (V.recol AH.ent))from by simp only[BI,BV,Xr]];refine q.mono λv _ h=>?_;rw[h];cases r:p x;have t:=wQ ((k:Int)+1);refine Zg t ?_;exact o _ ⟨b,(),V3 f g r,AO zp zp⟩;refine Z ?_;rw[Td f g r]
 have i:k=aa s.l:=zo;have e:=zV ((k:Int)<(aa s.l:Int));rw[i,B_]at g;refine Zf e ?_;rw[Te g]
def Gg(G)(g:Yy G)(c b)(C:List V->Prop)(h:∀ a,C a->C (a.map (V.recol AH.ent)))(a)(f:C a)(e:Yf ai b=ad)(p s)(i:s.l.length<1000000)(d:∀ v∈s.l,∀ a,C a->Spec () G b (qI v::a) Zm (p v)):Spec () G 58 [Za c 1 () s,.func (.func b) [] a] Zm (s.l.any p):=by refine Zo 0 9 [.tmp 4] func58 λX=>?_;refine Z ?_;refine Zc g ?_ (s:=uS G g _ b C h _ (h a f) e p s i d);refine Z ?_;rw[Mf]
def tv(G)(z:Yy G)(c c1 d)(C:List V->Prop)(A:∀ a,C a->C (a.map (V.recol AH.ent)))(a)(n:C a)(m:Yf ai d=ad)(p s)(B:s.l.length<1000000)(j:∀ v∈s.l,∀ c' a,C a->Spec () G d (Wt c' v::a) Zm (p v)):Spec () G 23 [Za c 6 (Wt c1) s,.func (.func d) [] a] Zm (Oy p s.l):=by
 have u:=λv h=>j v h c1.ent _ (A a n);refine Zo 0 19 [.tmp 4] func23 λX=>?_;refine Z ?_;refine Z8 [0,1,7] [] (aa s.l) (λk  _=>[(8,k)]) (λ_ _=>[]) (λk _=>∀ y∈s.l.take k,p y=ab) 0 () qz zS zp zp ?_;intro k _ D g E o;by_cases b:k<aa s.l
 .have e:=zU ((k:Int)<(aa s.l:Int));have f:=AY b;have q:=u s.l[k] (BT b);generalize s.l[k]=x at f q;refine Zf (j5 e f b Xl Ya) ?_;refine GS z m ?_;refine(show Spec () G d (((Wt c1 x::a):List V).map (V.recol AH.ent)) Zm _ from ?_);rw[show((Wt c1 x::a):List V).map (V.recol AH.ent)=(Wt c1.ent x::a.map (V.recol AH.ent))from by simp only[BI,BV,U7]];refine q.mono λv _ h=>?_;rw[h];cases r:p x;have t:=wQ ((k:Int)+1);refine Zg t ?_;exact o _ ⟨b,(),V3 f g r,AO zp zp⟩;refine Z ?_;rw[Td f g r]
 have i:k=aa s.l:=zo;have e:=zV ((k:Int)<(aa s.l:Int));rw[i,B_]at g;refine Zf e ?_;rw[Te g]
def ur(G)(r:Yy G)(c c1 b)(j:Yf ai b=ad)(p s)(t:s.l.length<1000000)(i:∀ v∈s.l,∀ c',Spec () G b [Uu c' v] Zm (p v)):Spec () G 176 [Za c 2 (Uu c1) s,.func (.func b) [] []] Zm (Oy p s.l):=by
 have i:=λv g=>i v g c1.ent;refine Zo 0 19 [.tmp 4] func176 λX=>?_;refine Z ?_;refine Z8 [0,1,7] [] (aa s.l) (λk  _=>[(8,k)]) (λ_ _=>[]) (λk _=>∀ y∈s.l.take k,p y=ab) 0 () qz zS zp zp ?_;intro k _ u f z m;by_cases a:k<aa s.l
 .have d:=zU ((k:Int)<(aa s.l:Int));have e:=AY a;have n:=i s.l[k] (BT a);generalize s.l[k]=x at e n;refine Zf (j5 d e a Ut Ya) ?_;refine GS r j ?_;refine(show Spec () G b (([Uu c1 x]:List V).map (V.recol AH.ent)) Zm _ from ?_);rw[show([Uu c1 x]:List V).map (V.recol AH.ent)=[Uu c1.ent x]from by simp only[BI,BV,YV]];refine n.mono λv _ g=>?_;rw[g];cases o:p x;have q:=wQ ((k:Int)+1);refine Zg q ?_;exact m _ ⟨a,(),V3 e f o,AO zp zp⟩;refine Z ?_;rw[Td e f o]
 have h:k=aa s.l:=zo;have d:=zV ((k:Int)<(aa s.l:Int));rw[h,B_]at f;refine Zf d ?_;rw[Te f]
def oS(G)(d:Yy G)(c c1 a)(b:Yf ai a=ad)(p s)(e:s.l.length<1000000)(f:∀ v∈s.l,∀ c',Spec () G a [Uu c' v] Zm (p v)):Spec () G 112 [Za c 2 (Uu c1) s,.func (.func a) [] []] Zm (s.l.any p):=by refine Zo 0 9 [.tmp 4] func112 λX=>?_;refine Z ?_;refine Zc d ?_ (ha:=by simp only[BI,BV,Xz _ c 2 (YV AH.ent c1) s,V.recol,Xd]) (s:=ur G d c.ent c1.ent a b p s e f);refine Z ?_;rw[Mf]
def mF(G)(a:Yy G)(c e):Spec () G 113 [Uu c e] Zm (λw _=>w=.bool (e.1 == -1)):=by refine Zo 0 6 _ func113 λX=>?_;rw[Ut];refine Z ?_;intro b;exact Zr
def ln(G)(a:Yy G)(c q)(b:q.1.AT.length<1000000):Spec () G 54 [Sf c q] Zm q.1.lost:=by refine Zo 0 6 _ func54 λX=>?_;rw[Q3];refine Z ?_;intro f;refine Z ?_;refine Zc a ?_ (s:=oS G a _ _ _ zk _ _ (by rw[Zl];exact b) (λv _ d=>mF G a d v));refine Z ?_;rfl
@[go_sem] def ADy(n ob q b v):Rx (ae (ab,n)) ob (.view q (.view b v))=ae (.view b v):=rfl
@[go_sem] def ADz(n ob q b c d e f g m x):Rx (ae (ab,n)) ob (.view q (Vn b c d e f g m x))=ae (Vn b c d e f g m x):=rfl
def v8(G)(k:Yy G)(z b c d e f g m x)(t:Int)(t0:0<=t)(t1:t<m.p.AE.length)(a:0<=m.p.sc t/\m.p.sc t<m.p.AN.length):Spec () G 116 [t,.view z (Vn b c d e f g m x)] Zm (λw _=>w=.bool (m.p.kd (m.p.sc t)==5)):=by
 refine Zo 0 16 _ func116 λX=>?_;obtain⟨n,y,rfl,h,j,v⟩:=m.wyAt t0 t1;have q:m.p.sc (n:Int)=y.AV:=by rw[PM.sc,v]<;>rfl
 rw[q]at a⊢;obtain⟨u,r⟩:=a;refine Z ?_;refine Zv ⟨λ_=>.top,λi=>if i=11 then .any else .pure⟩ zk k zk zk ?_;simp -implicitDefEqProofs only[go_sem,seval,j,h,Tt,Z6,@DS,@GY];intro o;refine W5 14 [Vn b c d e f g m x,y.AV,Za .new 1 (V.int .u8) (.mk ab [5])] ⟨Zd,Zd,Xm (l:=[5]) rfl zp BE,AJ⟩ ?_;refine Zc k ?_ (s:=T8 G k _ _ _ _ _ _ _ m _ _ u r _ zd);rw[KS];exact Zr
def Jp(G)(i:Yy G)(b c d e f g c1 m x l)(r:l.l.length<1000000)(q:∀ t∈l.l,0<=t/\t<m.p.AE.length)(h:∀ t:Int,0<=t->t<m.p.AE.length->0<=m.p.sc t/\m.p.sc t<m.p.AN.length):Spec () G 56 [Vn b c d e f g m x,Za c1 1 () l] Zm (m.p.forkedB l.l):=by
 refine Zo 0 8 _ func56 λX=>?_;refine Z ?_;intro y;refine qF 2 [1] [] 2 (Vn b c d e f g m x) ?_;refine Z ?_;refine Zc i ?_ (s:=Gg G i _ _ (λu=>∃ a b c d e f g x,u=[.view a (Vn b c d e f g m x)]) (by
  rintro _ ⟨a,b,c,d,e,f,g,x,rfl⟩;exact⟨_,_,_,_,_,_,_,_,by simp only[BI,BV,V.recol,Sq];rfl⟩) _ ⟨_,_,_,_,_,_,_,_,rfl⟩ zk (λt=>m.p.kd (m.p.sc t)==5) l r (by
  rintro v n _ ⟨a,b,c,d,e,f,g,x,rfl⟩;have⟨k,j⟩:=q v n;exact v8 G i a b c d e f g m x v k j (h v k j)))
 exact Zr
def jv{m}(a:m.BW){v r}(f:0<=v)(h:v<m.AN.length)(j:0<=r):((Mm m v).any λu=>m.rgO u==r)=m.withinB v r:=by
 have i:Mm m v=v::m.ups v:=AF f;rw[i,PM.withinB,FW,FX,FX];constructor;rintro⟨u,d,e⟩;have b:=a.chain f h d;rw[CX,PM.rgO]at e;by_cases c:0<=(m.vx u).of;rw[AF c]at e;have g:m.around u=(m.vx u).of:=by rw[PM.around,AF c]
 refine⟨(m.vx u).of,FR _ (a.ups_tr g c f h d),by rw[e];exact J' _⟩;rw[AA c]at e;exact⟨u,d,by rw[e];exact J' _⟩;rintro⟨u,d,e⟩;have b:=a.chain f h d;rw[CX]at e;by_cases c:0<=(m.vx u).of;have:=a.pt u b.1 b.2 c;omega;exact⟨u,d,by rw[PM.rgO,AA c,e];exact J' _⟩
def ux(G)(i:Yy G)(b c d x m)(a:m.BW)(g:EQ m x)(v r:Int)(f:0<=v)(e:v<m.AN.length)(h:0<=r):Spec () G 60 [I5 b c d x,v,r] Zm (m.withinB v r):=by rw[<- jv a f e h];exact yZ G i b c d x m a g v r f e
def mW(G)(j:Yy G)(b c d x m)(a:m.BW)(h:EQ m x)(v s:Int)(n:0<=v)(l:v<m.AN.length)(g:0<=s)(f:s<m.AN.length)(i:m.kd s=1):Spec () G 61 [I5 b c d x,v,s] Zm (m.inB v s):=by
 have e:m.inB v s=(m.ups v).any λk=>k==s:=by rw[PM.inB,NK];congr 1;funext k;exact BEq.comm
 rw[e];exact xS G j b c d x m a h v s n l g f i
def Ro(G c d m)(v:Int)(f:0<=v)(e:v<m.p.AN.length):Spec () G 73 [Zw c d m,v] Zm ad:=by refine Zo 0 15 _ func73 λX=>?_;rw[m.nv]at e;have b:=zU (v>=0);have a:=zU (v<(aa m.AL.l:Int));refine Zf Zj ?_;intro g;exact Zq (j3 b a Zj)
def Ay(G c d m)(v:Int)(f:0<=v)(e:v<m.p.AU.length):Spec () G 74 [Zw c d m,v] Zm ad:=by refine Zo 0 15 _ func74 λX=>?_;rw[show aa m.p.AU=aa m.AU.l from rfl]at e;have b:=zU (v>=0);have a:=zU (v<(aa m.AU.l:Int));refine Zf Zj ?_;intro g;exact Zq (j3 b a Zj)
def vD(G)(i:Yy G)(c d m)(v:Int)(e:0<=v)(b:v<m.p.AN.length)(a:m.p.kd v=1):Spec () G 77 [Zw c d m,v] Zm ad:=by
 refine Zo 0 18 _ func77 λX=>?_;refine Zf Zj ?_;intro k;refine Zf Zj ?_;refine Zc i ?_ (s:=Ro G _ _ m v e b);obtain⟨n,x,rfl,g,h,j⟩:=EH e b;have f:x.AD=1:=by rw[PM.kd,j]at a;exact a
 have q:=zu f;exact Zh (j6 q h g Zp Zj Ya)
def Mw(G)(a:Yy G)(c d m)(f:m.p.FB)(v:Int)(e:0<=v)(b:v<m.p.AN.length):Spec () G 75 [Zw c d m,v] Zm (m.p.around v):=by refine Zo 0 13 _ func75 λX=>?_;refine Zf Zj ?_;intro g;refine Zf Zj ?_;refine Zc a ?_ (s:=Ro G _ _ m v e b);refine Zg Zj ?_;refine Zc a ?_ (s:=Rr G a _ _ m f v e b);exact Zr
def AA'(G)(z:Yy G)(c d m)(a:m.p.BW)(v:Int)(t:0<=v)(r:v<m.p.AN.length):Spec () G 76 [Zw c d m,v] Zm (m.p.rgO v):=by refine Zo 0 37 _ func76 λX=>?_;refine Zf Zj ?_;intro D;refine qF 2 [1] [] 2 (Zw c d m) ?_;refine Zf Zj ?_;refine Zc z ?_ (s:=Ro G _ _ m v t r);obtain⟨n,x,rfl,f,j,A⟩:=EH t r;have e:=a.DA _ t r;rw[PM.rgO,A];rw[PM.around,A]at e;by_cases u:0<=x.of;have q:=zU _;have b:0<=x.p.of:=u;rw[AF b]at e⊢;have⟨k,y,B,g,i,C⟩:=EH (m:=m) (v:=x.p.of) zo zo;have h:x.of=(k:Int):=B;rw[C];refine Zg (j6 q j f Zp Zj Ya) ?_;refine Pr (j8 j f h i g Zp Zj Ya) z ?_;exact Zr;have q:=zV (x.of>=0);have b:¬0<=x.p.of:=u;rw[AA b];refine Zg (j6 q j f Zp Zj Ya) ?_;rfl
def Ko(G)(b:Yy G)(c d m)(n:m.p.FB)(a:m.p.BW)(v s:Int)(k:0<=v)(j:v<m.p.AN.length)(t:0<=s)(r:s<m.p.AN.length)(y:m.p.kd s=1):Spec () G 42 [Zw c d m,v,s] Zm (m.p.inB v s):=by refine Zo 0 29 _ func42 λX=>?_;refine Zf Zj ?_;intro A;refine qF 3 [1,2] [] 3 (Zw c d m) ?_;refine Zf Zj ?_;refine Zc b ?_ (s:=Ro G _ _ m v k j);refine Zg Zj ?_;refine Zc b ?_ (s:=vD G b _ _ m s t r y);refine Zg Zj ?_;refine Zc b ?_ (s:=Mw G b _ _ m n v k j);refine Z ?_;refine Xw [2,3] [] (fun(p:Int)=>[(7,p)]) (λ_=>[]) (λp=>(0<=p->p<aa m.p.AN/\m.p.inB v s=(p==s||m.p.inB p s))/\(p<0->m.p.inB v s=ab)) (λp=>if 0<=p then aa (m.p.ups p)+1 else 0) (m.p.around v) ⟨λh=>⟨by have:=a.DA v k j;omega,a.inB_up k j h⟩,λh=>PM.inB_nil h⟩ zp zp ?_;rintro p ⟨u,x⟩ L z;by_cases f:0<=p;have⟨i,e⟩:=u f;have g:=zU (p>=0);cases q:(p==s);rw[q,CH]at e;refine Zf (j3 g q Zj) ?_;refine Zc b ?_ (s:=Mw G b c.ent d.ent m n p f i);refine Zs ?_;refine z _ ⟨m.p.around p,?_,⟨λh=>⟨by have:=a.DA p f i;omega,by rw[e];exact a.inB_up f i h⟩,λh=>by rw[e];exact PM.inB_nil h⟩,AO zp zp⟩;rw[AF f];split;rename_i h;rw[a.ups_cons f i h,CW];omega;omega;rw[e,q];exact Zq (zi g q);have g:=zV (p>=0);rw[x zo];exact Zq g
def A0(G)(f:Yy G)(c d m)(z:m.p.FB)(a:m.p.BW)(v r:Int)(n:0<=v)(j:v<m.p.AN.length)(k:0<=r)(t:r<m.p.AU.length):Spec () G 41 [Zw c d m,v,r] Zm (m.p.withinB v r):=by rw[<- jv a n j k];have up:∀ {p},0<=p->Mm _ p=p::m.p.ups p:=λh=>AF h;refine Zo 0 29 _ func41 λX=>?_;refine Zf Zj ?_;intro B;refine qF 3 [1,2] [] 3 (Zw c d m) ?_;refine Zf Zj ?_;refine Zc f ?_ (s:=Ro G _ d.ent m v n j);refine Zg Zj ?_;refine Zc f ?_ (s:=Ay G c.ent d.ent m r k t);refine Zg Zj ?_;refine Xw [2,3] [] (fun(p:Int)=>[(7,p)]) (λ_=>[]) (λp=>(0<=p->p<aa m.p.AN)/\(Mm m.p v).any (λu=>m.p.rgO u==r)=(Mm m.p p).any λu=>m.p.rgO u==r) (λp=>if 0<=p then aa (m.p.ups p)+1 else 0) v ⟨λ_=>j,rfl⟩ zp zp ?_;rintro p ⟨y,e⟩ L A;rw[e];by_cases b:0<=p;have g:=y b;have i:=zU (p>=0);rw[up b,HR]at e⊢;refine Zf (zi i Zj) ?_;refine Zc f ?_ (s:=AA' G f c.ent d.ent m a p b g);cases q:(m.p.rgO p==r);rw[q,CH]at e;refine Zg (zi q Zj) ?_;refine Zc f ?_ (s:=Mw G f c.ent d.ent m z p b g);refine Zs ?_;have x:=a.DA p b g;refine A _ ⟨m.p.around p,?_,⟨λh=>zo,?_⟩,AO zp zp⟩;rw[AF b];split;rename_i h;rw[a.ups_cons b g h,CW];omega;omega;rw[e];by_cases h:0<=m.p.around p;rw[up h,a.ups_cons b g h];rw[PM.BW.ups_nil zo,Mm,AA h];exact Zh q;have i:=zV (p>=0);have:Mm m.p p=[]:=AA b;rw[this];exact Zq i
def I3(m:PM)(a b r q:Int):Bool:=(r != q)&&(decide (0<=m.ow r)&&(m.ow r==m.ow q&&(m.withinB a r&&m.withinB b q)))
def gm{m}(k:m.BW){a b}(e:0<=a)(d:a<m.AN.length)(b0:0<=b)(c:b<m.AN.length):m.orthoB a b=ad↔∃ r q,(0<=r/\r<m.AU.length)/\(0<=q/\q<m.AU.length)/\I3 m a b r q=ad:=by rw[k.ortho_eq e d b0 c];simp only[I3,BP,JJ,ne_eq,CM,CX]
def yH{m}(k:m.BW){a b}(g:0<=a)(f:a<m.AN.length)(b0:0<=b)(d:b<m.AN.length)(h:∀ r q:Nat,r<m.AU.length->q<m.AU.length->I3 m a b r q=ab):m.orthoB a b=ab:=by rw[FV];intro e;have⟨r,q,i,j,c⟩:=(gm k g f b0 d).1 e;have:=h r.toNat q.toNat zo zo;rw[show((r.toNat:Nat):Int)=r by omega,show((q.toNat:Nat):Int)=q by omega,c]at this;cases this
def kE{m:PM}(k:m.BW){v r:Int}(d:0<=v)(c:v<aa m.AN)(a:0<=r)(b:0<=m.ow r)(h:m.withinB v r=ad):m.inB v (m.ow r)=ad:=by have:=k.regU_mem d c b (by rw[(k.within_reg d c a b).1 h];exact a);exact HS.2 this
def wC(G)(B:Yy G)(c d m)(W:m.p.FB)(C:m.p.BW)(hrl:m.AU.l.length<1000000)(a b:Int)(R:0<=a)(Q:a<m.p.AN.length)(b0:0<=b)(P:b<m.p.AN.length)(hst:∀ r:Int,0<=r->r<m.p.AU.length->0<=m.p.ow r->m.p.ow r<m.p.AN.length/\m.p.kd (m.p.ow r)=1):Spec () G 40 [Zw c d m,a,b] Zm (m.p.orthoB a b):=by
 have hrp:aa m.p.AU=aa m.AU.l:=rfl;refine Zo 0 75 _ func40 λX=>?_;refine Zf Zj ?_;intro g2;refine qF 3 [1,2] [] 3 (Zw c d m) ?_;refine Z ?_;refine Z8 [1,2,3] [] (aa m.AU.l) (λk  _=>[(7,k)]) (λ_ _=>[]) (λk _=>∀ r q,r<k->q<aa m.AU.l->I3 m.p a b r q=ab) 0 () qz (λr q h=>absurd h (FH _)) zp zp ?_;intro k _ hk E L1 hL1;by_cases N:k<aa m.AU.l
 rotate_left;have M:k=aa m.AU.l:=zo;have g:=zV ((k:Int)<(aa m.AU.l:Int));rw[M]at g E;rw[yH C R Q b0 P (λr q hr n=>E r q zo zo),M];exact Zq (zi g Zj);have g:=zU ((k:Int)<(aa m.AU.l:Int));have w1:=wQ ((k:Int)+1);refine Ym (zi g Zj) ?_;refine Z ?_;refine Z8 [1,2,3,7] [] (aa m.AU.l) (λj  _=>[(8,j)]) (λ_ _=>[]) (λj _=>∀ q,q<j->I3 m.p a b k q=ab) 0 () qz (λq h=>absurd h (FH _)) zp zp ?_;intro j _ hj i L2 z
 by_cases t:j<aa m.AU.l
 rotate_left;have O:j=aa m.AU.l:=zo;have g:=zV ((j:Int)<(aa m.AU.l:Int));rw[O]at g i;rw[O];refine Zf (j3 g w1 Zj) ?_
 exact hL1 _ ⟨N,(),λr q hr n=>(by rcases JU.1 hr with h|rfl;exact E r q h n;exact i q n),AO (Vw @Zj) zp⟩
 have L:=zU ((j:Int)<(aa m.AU.l:Int));have w2:=wQ ((j:Int)+1);have⟨k',x,ek,_,hgk,u⟩:=Ov (m:=m) (v:=(k:Int)) zo zo;obtain rfl:k=k':=zo;have⟨j',y,ej,_,hgj,K⟩:=Ov (m:=m) (v:=(j:Int)) zo zo;obtain rfl:j=j':=zo;have f:=j8 w2 hgk hgj N t Xj Zj Ya;refine Ym (zi L Zj) ?_;refine Ym f ?_;cases F:((k:Int) != (j:Int));refine Zf (zi F f) ?_;have e:I3 m.p a b (k:Int) (j:Int)=ab:=by simp[I3,F]
 exact z _ ⟨t,(),λq n=>(by rcases JU.1 n with h|rfl;exact i q h;exact e),AO (Vw @Zj) zp⟩
 cases T:decide (0<=x.2);have A:decide (x.2>=0)=ab:=T;refine Zf (j3 F A f) ?_;have e:I3 m.p a b (k:Int) (j:Int)=ab:=by simp[I3,u,T]
 exact z _ ⟨t,(),λq n=>(by rcases JU.1 n with h|rfl;exact i q h;exact e),AO (Vw @Zj) zp⟩
 have A:decide (x.2>=0)=ad:=T;have H:0<=m.p.ow (k:Int):=by rw[u];exact JC T
 cases S:(x.2==y.2);refine Zf (j4 F A S f) ?_;have e:I3 m.p a b (k:Int) (j:Int)=ab:=by simp[I3,u,K,S]
 exact z _ ⟨t,(),λq n=>(by rcases JU.1 n with h|rfl;exact i q h;exact e),AO (Vw @Zj) zp⟩
 refine Zf (j4 F A S f) ?_;refine Zc B ?_ (s:=A0 G B c.ent d.ent m W C a k R Q zo zo);cases J:m.p.withinB a (k:Int);refine Zg (zi J f) ?_;have e:I3 m.p a b (k:Int) (j:Int)=ab:=by simp[I3,J]
 exact z _ ⟨t,(),λq n=>(by rcases JU.1 n with h|rfl;exact i q h;exact e),AO (Vw @Zj) zp⟩
 refine Zg (zi J f) ?_;refine Zc B ?_ (s:=A0 G B c.ent d.ent m W C b j b0 P zo zo);cases I:m.p.withinB b (j:Int);refine Zg (zi I f) ?_;have e:I3 m.p a b (k:Int) (j:Int)=ab:=by simp[I3,I]
 exact z _ ⟨t,(),λq n=>(by rcases JU.1 n with h|rfl;exact i q h;exact e),AO (Vw @Zj) zp⟩
 have U:=hst k zo zo H;have D:m.p.ow (j:Int)=m.p.ow (k:Int):=by rw[u,K];exact(CX.1 S).symm
 have u1:=kE C R Q zo H J;have Y:=kE C b0 P zo (by rw[D];exact H) I;rw[D]at Y;have hob:=(gm C R Q b0 P).2 ⟨k,j,⟨zo,zo⟩,⟨zo,zo⟩,by simp[I3,F,H,D,J,I]⟩;have s1:=Ko G B c.ent d.ent m W C a (m.p.ow k) R Q H U.1 U.2;have s2:=Ko G B c.ent d.ent m W C b (m.p.ow k) b0 P H U.1 U.2;rw[u]at s1 s2 u1 Y;refine Zg (zi I f) ?_;refine Zc B ?_ (s:=s1);refine Zg (zi u1 f) ?_;refine Zc B ?_ (s:=s2);rw[hob];exact Zh (zi Y f)
def Nt(G)(C:Yy G)(c d m)(A:m.AE.l.length<1000000)(v:Int):Spec () G 36 [Zw c d m,v] Zm (qE (Zb (m.p.outI v))):=by
 show Spec _ _ _ _ _ λw _=>w=qE (Zb (m.p.wysI v ab (aa m.p.AE)));refine Zo 0 29 _ func36 λX=>?_;rw[m.nw];refine Zf Zj ?_;intro u;refine qF 2 [1] [] 2 (Zw c d m) ?_;refine Z ?_;refine Wy (aa m.AE.l) (λk  g=>st [(1,v),(2,qW (Zw c d m)),(5,AZ 27 g 1 (m.p.wysI v ab k)),(6,k)] [(27,Z9 g (V.int .i64) (m.p.wysI v ab k))])
  (λ_ _=>True) 0 0 qz trivial qs ?_
 intro k g B _ z a;by_cases b:k<aa m.AE.l
 rotate_left;have n:k=aa m.AE.l:=zo;subst n;have h:decide ((aa m.AE.l:Int)<(aa m.AE.l:Int))=ab:=zS;generalize m.p.wysI v ab (aa m.AE.l)=e;refine Y2 (λo=>o==27) [2,6] [] (l:=[(5,qE (Zb e))]) (m:=[]) ?_ trivial ?_;refine Zs ?_;exact Yp (f:=V.int .i64) rfl zp BE;exact Zq (zi h Zj);have h:=zU ((k:Int)<(aa m.AE.l:Int));have r:=AY b;have i:=PM.wysI_len (m:=m.p) v ab k;generalize m.AE.l[k]=x at r;have j:=Ri r;rw[PM.wysI_succ,j]at a;have a:∀ s',(k<aa m.AE.l/\∃ x',True/\Weak ⟨X,Zm,29,0,G,ah,[],.plain⟩ s' (st [(1,v),(2,qW (Zw c d m)),(5,AZ 27 x' 1 (m.p.wysI v ab k++if((ab&&x.target==v)||(!false&&x.AV==v))=ad then[(k:Int)]else[])),(6,qI (k+1:Nat))] [(27,Z9 x' (V.int .i64) (m.p.wysI v ab k++if((ab&&x.target==v)||(!false&&x.AV==v))=ad then[(k:Int)]else[]))]))->z s':=a;generalize m.p.wysI v ab k=e at a i⊢;have t:=wQ ((k:Int)+1);refine Ym (zi h Zj) ?_;refine Ym (j5 r Z6 Zj b Ya) ?_;cases q:(x.AV==v)
 have s:(((ab:Bool)&&x.target==v)||(!(ab:Bool)&&x.AV==v))=ab:=by simp[q]
 rw[s,AA zd,DW]at a;refine Zf (j3 q t Z6) ?_;exact a _ ⟨b,g,AJ,AO (Vw @Zj) zp⟩;have s:(((ab:Bool)&&x.target==v)||(!(ab:Bool)&&x.AV==v))=ad:=by simp[q]
 rw[s,AF rfl]at a;refine Zf (zi q Z6) ?_;intro y;refine Yg (f:=V.int .i64) (l:=e) (l2:=[(k:Int)]) BE rfl rfl rfl zp (Z3 zo zO) λu=>?_;refine Zs ?_;refine Zf t ?_;exact a _ ⟨b,u,AJ,AO (Vw @Zj) zp⟩
def vF(G)(C:Yy G)(c d m)(A:m.AE.l.length<1000000)(v:Int):Spec () G 35 [Zw c d m,v] Zm (qE (Zb (m.p.intoI v))):=by
 show Spec _ _ _ _ _ λw _=>w=qE (Zb (m.p.wysI v ad (aa m.p.AE)));refine Zo 0 29 _ func35 λX=>?_;rw[m.nw];refine Zf Zj ?_;intro u;refine qF 2 [1] [] 2 (Zw c d m) ?_;refine Z ?_;refine Wy (aa m.AE.l) (λk  g=>st [(1,v),(2,qW (Zw c d m)),(5,AZ 27 g 1 (m.p.wysI v ad k)),(6,k)] [(27,Z9 g (V.int .i64) (m.p.wysI v ad k))])
  (λ_ _=>True) 0 0 qz trivial qs ?_
 intro k g B _ z a;by_cases b:k<aa m.AE.l
 rotate_left;have n:k=aa m.AE.l:=zo;subst n;have h:decide ((aa m.AE.l:Int)<(aa m.AE.l:Int))=ab:=zS;generalize m.p.wysI v ad (aa m.AE.l)=e;refine Y2 (λo=>o==27) [2,6] [] (l:=[(5,qE (Zb e))]) (m:=[]) ?_ trivial ?_;refine Zs ?_;exact Yp (l:=e) (f:=V.int .i64) rfl zp BE;exact Zq (zi h Zj);have h:=zU ((k:Int)<(aa m.AE.l:Int));have r:=AY b;have i:=PM.wysI_len (m:=m.p) v ad k;generalize m.AE.l[k]=x at r;have j:=Ri r;rw[PM.wysI_succ,j]at a;have a:∀ s',(k<aa m.AE.l/\∃ x',True/\Weak ⟨X,Zm,29,0,G,ah,[],.plain⟩ s' (st [(1,v),(2,qW (Zw c d m)),(5,AZ 27 x' 1 (m.p.wysI v ad k++if((ad&&x.target==v)||(!true&&x.AV==v))=ad then[(k:Int)]else[])),(6,qI (k+1:Nat))] [(27,Z9 x' (V.int .i64) (m.p.wysI v ad k++if((ad&&x.target==v)||(!true&&x.AV==v))=ad then[(k:Int)]else[]))]))->z s':=a;generalize m.p.wysI v ad k=e at a i⊢;have t:=wQ ((k:Int)+1);refine Ym (zi h Zj) ?_;refine Ym (j5 r Z6 Zj b Ya) ?_;cases q:(x.target==v)
 have s:(((ad:Bool)&&x.target==v)||(!(ad:Bool)&&x.AV==v))=ab:=by simp[q]
 rw[s,AA zd,DW]at a;refine Zf (j3 q t Z6) ?_;exact a _ ⟨b,g,AJ,AO (Vw @Zj) zp⟩;have s:(((ad:Bool)&&x.target==v)||(!(ad:Bool)&&x.AV==v))=ad:=by simp[q]
 rw[s,AF rfl]at a;refine Zf (zi q Z6) ?_;intro y;refine Yg (f:=V.int .i64) (l:=e) (l2:=[(k:Int)]) BE rfl rfl rfl zp (Z3 zo zO) λu=>?_;refine Zs ?_;refine Zf t ?_;exact a _ ⟨b,u,AJ,AO (Vw @Zj) zp⟩
def x7(G c s)(n:Int)(m:s.l.length<1000000):Spec () G 70 [Za c 1 () s,n] Zm (s.l.contains n):=by
 refine Zo 0 18 _ func70 λX=>?_;refine Z ?_;refine Z8 [0,1] [] (aa s.l) (λk  _=>[(5,k)]) (λ_ _=>[]) (λk _=>∀ y∈s.l.take k,(y==n)=ab) 0 () qz zS zp zp ?_;intro k _ o h r i;by_cases b:k<aa s.l;have a:=zU _;have g:=AY b;generalize s.l[k]=x at g;have j:=wQ ((k:Int)+1);have f:=j5 a j g b Ya;cases q:(x==n);refine Zf (zi q f) ?_;exact i _ ⟨b,(),V3 g h q,AO zp zp⟩;rw[HS.2 (by rw[<- CX.1 q];exact DY g)];exact Zq (zi q f);have d:k=aa s.l:=zo;have a:=zV ((aa s.l:Int)<(aa s.l:Int));rw[d,B_]at h;have e:s.l.contains n=ab:=by rw[FV];intro e;have:=h _ (HS.1 e);simp at this
 rw[d,e];exact Zq a
def Hj(G c c1 a b)(ha:a.l.length<1000000)(j:b.l.length<1000000):Spec () G 69 [Za c 1 (V.int .i64) a,Za c1 1 (V.int .i64) b] Zm (qE (Zb (a.l++b.l))):=by refine Zo 0 12 _ func69 λX=>?_;refine Z ?_;refine Yg (f:=V.int _) (l:=([]:List _)) (g:=0) BE rfl rfl rfl zp (Z3 zo zO) λh=>?_;refine Zs ?_;refine Z ?_;refine U5 (f:=V.int _) BE rfl rfl rfl zr (Z3 zo zo) λd e i=>?_;refine Zs ?_;refine BM (Z4 (λo=>o==d) (l:=[(4,qE (Zb (a.l++b.l)))]) (m:=[]) ?_ trivial) ?_;refine Zs ?_;exact Yp zS zp BE;exact Zr
def xZ(G)(k:Yy G)(c d m)(o:m.AE.l.length<1000000)(v:Int)(u:0<=v)(t:v<m.p.AN.length):Spec () G 68 [Zw c d m,v] Zm (m.p.oneP v):=by
 have a:=Nt G k c.ent d.ent m o v;have b:aa (Zb (m.p.outI v)).l=aa (m.p.outI v):=by rw[Zl]
 obtain⟨n,x,rfl,q,r,y⟩:=EH u t;have i:m.p.kd (n:Int)=x.AD:=by rw[PM.kd,y];rfl
 rw[PM.oneP,i];generalize m.p.outI _=out at a b⊢;refine Zo 0 30 _ func68 λX=>?_;have f:=j5 r q Zp Zj Ya;refine Zf Zj ?_;intro z;refine Ym f ?_;cases g:(x.AD==5);rotate_left;exact Zq (zi g f);cases h:(x.AD==11);rotate_left;exact Zq (j3 g h f);cases j:(x.AD==10);exact Zq (j4 g h j f);refine Zf (j4 g h j f) ?_;refine Zc k ?_ (s:=a);have e:(((aa out:Nat):Int)==1)=(aa out==1):=by rw[FW,CX,CX];omega
 refine Zh (j3 b e f)
def yQ(G)(j:Yy G)(c d m)(k:m.AE.l.length<1000000)(v:Int)(t:0<=v)(r:v<m.p.AN.length):Spec () G 71 [Zw c d m,v] Zm (m.p.allP v):=by
 have a:=Nt G j c.ent d.ent m k v;have b:aa (Zb (m.p.outI v)).l=aa (m.p.outI v):=by rw[Zl]
 obtain⟨n,x,rfl,o,q,u⟩:=EH t r;have h:m.p.kd (n:Int)=x.AD:=by rw[PM.kd,u];rfl
 rw[PM.allP,h];generalize m.p.outI _=out at a b⊢;refine Zo 0 26 _ func71 λX=>?_;have f:=j5 q o Zp Zj Ya;refine Zf Zj ?_;intro y;refine Ym f ?_;cases g:(x.AD==6);rotate_left;exact Zq (zi g f);cases i:(x.AD==10);exact Zq (j3 g i f);refine Zf (j3 g i f) ?_;refine Zc j ?_ (s:=a);have e:decide (((aa out:Nat):Int)>1)=decide (1<aa out):=EB.2 zo;refine Zh (j3 b e f)
def Ax(G)(E:Yy G)(c d c1 m s)(P:s.l.length<1000000)(J:∀ t∈s.l,0<=t/\t<m.p.AE.length)(r:∀ t:Int,0<=t->t<m.p.AE.length->0<=m.p.sc t/\m.p.sc t<m.p.AN.length):Spec () G 39 [Zw c d m,Za c1 1 () s] Zm (m.p.forkedB s.l):=by
 refine Zo 0 29 _ func39 λX=>?_;refine Zf Zj ?_;intro R;refine qF 2 [1] [] 2 (Zw c d m) ?_;refine Z ?_;refine Z8 [1,2] [] (aa s.l) (λk  _=>[(5,k)]) (λ_ _=>[]) (λk _=>∀ t∈s.l.take k,(m.p.kd (m.p.sc t)==5)=ab) 0 () qz zS zp zp ?_;intro k _ Q C S D;by_cases a:k<aa s.l;have g:=zU ((k:Int)<(aa s.l:Int));have B:=AY a;have u:=BT a;generalize s.l[k]=t at B u;have⟨t0,t1⟩:=J t u;have b:=r t t0 t1;obtain⟨n,y,rfl,K,z,M⟩:=m.wyAt t0 t1;have i:m.p.sc (n:Int)=y.AV:=by rw[PM.sc,M];rfl
 rw[i]at b;have⟨j,x,O,L,A,N⟩:=EH b.1 b.2;have F:m.p.kd (m.p.sc (n:Int))=x.AD:=by rw[i,PM.kd,N];rfl
 have H:=wQ ((k:Int)+1);have f:=VG H B a z K O A L Zp Z6 Zj Ya;refine Ym g ?_;cases q:(x.AD==5);refine Pr (zi q f) E ?_;refine Zf (zi q f) ?_;exact D _ ⟨a,(),V3 B C (by rw[F];exact q),AO (zq @Zj) zp⟩;rw[show m.p.forkedB s.l=ad from FX.2 ⟨_,u,by rw[F];exact q⟩];refine Pr (zi q f) E ?_;exact Zq (zi q f);have h:k=aa s.l:=zo;have g:=zV ((aa s.l:Int)<(aa s.l:Int));rw[h,B_]at C;have e:m.p.forkedB s.l=ab:=JF.2 λt I=>by rw[C t I];simp
 rw[h,e];exact Zq g
section
def TL{α:Type}(n:Nat)(L F:List α):Prop:=L=F\/(n<aa L/\n<aa F)
def TL.map{α β n L F}(f:α->β)(h:TL n L F):TL n (L.map f) (F.map f):=by rcases h with rfl|h;exact .inl rfl;exact .inr (by simpa using h)
def TL.ne{α n}{L F:List α}(h:TL n L F)(a:F≠[]):L≠[]:=by rcases h with rfl|h;exact a;intro e;rw[e]at h;simp at h
structure LR{α β:Type}(n:Nat)(l:List α)(g:α->List β)(i:Nat)(acc:List β):Prop where
 ex:TL n acc ((l.take i).flatMap g)
 ge:i<=aa acc
def LR.zero{α β n l}{g:α->List β}:LR n l g 0 []:=⟨.inl (by simp),BO _⟩
def LR.step{α β n l g i}{acc r:List β}{a:α}(ha:l[i]?=ae a)(h:LR n l g i acc)(f:acc.length<=n)(b:TL n r (g a))(d:g a≠[]):LR n l g (i+1) (acc++r):=by have c:=JH.2 (b.ne d);have:=h.ge;refine⟨?_,by rw[BQ];omega⟩;rcases h.ex with e|e;rw[PM.take_at ha,HU,FY,NQ,DW,<- e];rcases b with rfl|b;exact .inl rfl;exact .inr (by simp only[BQ];omega);omega
def di{α β:Type}{g:α->List β}:∀ {l:List α},(∀ a∈l,g a≠[])->aa l<=aa (l.flatMap g)
 |[],_=>CB _|a::r,h=>by have:=di (l:=r) λx b=>h x (by simp[b]);have:=JH.2 (h a (by simp));rw[FY,BQ,CW];omega
def LR.CK{α β n l F}{g:α->List β}{i acc}(h:LR n l g i acc)(d:TL n l F)(c:∀ a∈F,g a≠[])(hi:i=l.length\/n<acc.length):TL n acc (F.flatMap g):=by
 have b:=h.ge;rcases d with rfl|⟨j,f⟩;rcases hi with rfl|hi;have:=h.ex;rwa [B_]at this;refine .inr ⟨hi,?_⟩;have e:l.flatMap g=(l.take i).flatMap g++(l.drop i).flatMap g:=by rw[<- HU,HX]
 rw[e,BQ];rcases h.ex with e|e;rw[<- e];omega;omega;have:=di c;refine .inr ⟨?_,by omega⟩;rcases hi with rfl|hi<;>omega
def Np{α β:Type}(n:Nat)(g:α->List β):List α->List β->List β
 |[],acc=>acc|a::r,acc=>if n<aa acc then acc else Np n g r (acc++g a)
def Ci{α β n g}{l:List α}{acc:List β}(h:n<acc.length):Np n g l acc=acc:=by rcases l with _|⟨a,r⟩;rfl;exact AF h
def ZM{α β n g}{l:List α}{i a}{acc:List β}(ha:l[i]?=ae a)(h:acc.length<=n):Np n g (l.drop i) acc=Np n g (l.drop (i+1)) (acc++g a):=by rw[PM.drop_at ha,Np,AA (by omega)]
def ZO{α β n b g}:∀ {l:List α} {acc:List β},acc.length<=n+b->(∀ a∈l,(g a).length<=b)->(Np n g l acc).length<=n+b
 |[],acc,h,_=>h|a::r,acc,h,hg=>by rw[Np];split;exact h;have:=hg a (by simp);exact ZO (by rw[BQ];omega) λx c=>hg x (by simp[c])
def gj{α β n g}{P:β->Prop}:∀ {l:List α} {acc},(∀ x∈acc,P x)->(∀ a∈l,∀ x∈g a,P x)->∀ x∈Np n g l acc,P x
 |[],acc,h,_=>h|a::r,acc,h,hg=>by rw[Np];split;exact h;exact gj (λx c=>(DX.1 c).elim (h x) (hg a (by simp) x)) λb d=>hg b (by simp[d])
def gv{α β n l F}{g c:α->List β}(s:TL n l F)(r:∀ a∈l,TL n (g a) (c a))(o:∀ a,c a≠[]):TL n (Np n g l []) (F.flatMap c):=by
 have d:∀ (k i) (b),i+k=aa l->LR n l c i b->∃ j,j<=aa l/\LR n l c j (Np n g (l.drop i) b)/\(j=aa l\/n<aa (Np n g (l.drop i) b)):=by
  intro k
  induction k with|zero=>intro i b q h;have e:l.drop i=[]:=HT (by omega);rw[e];exact⟨i,by omega,h,.inl (by omega)⟩|succ k ih=>intro i b q h;by_cases f:n<aa b;rw[Ci f];exact⟨i,by omega,h,.inr f⟩;have m:=AY (l:=l) (i:=i) (by omega);rw[ZM m (by omega)];exact ih _ _ (by omega) (h.step m (by omega) (r _ (BT _)) (o _))
 have⟨j,_,p,h2⟩:=d (aa l) 0 [] (by omega) .zero;rw[HB]at p h2;exact p.CK s (λa _=>o a) h2
namespace PM
variable{m:PM}
def exK(m:PM)(os:iS):List (List DI):=os.foldl (λrows o=>rows.flatMap λrow=>(m.exL o).map λw=>row++[w]) [[]]
def qb(os o):m.exK (os++[o])=(m.exK os).flatMap λrow=>(m.exL o).map λw=>row++[w]:=by rw[exK,KI];rfl
def fH:∀ os (rows:List (List DI)),os.foldl (λrows o=>rows.flatMap λrow=>(m.exL o).map λw=>row++[w]) rows=rows.flatMap λrow=>m.fanF os row
 |[],rows=>by induction rows with|nil=>rfl|cons a r ih=>rw[FY,<- ih];rfl
 |o::os,rows=>by rw[QF,fH os,List.flatMap_assoc];congr 1;funext row;rw[fanF,WD]
def YN(os):m.exK os=m.fanF os []:=by rw[exK,fH,FY,NQ,DW]
def AB3(h:m.DM){t:Int}(t0:0<=t)(t1:t<aa m.AE):m.exL t≠[]:=by have:=h.tg t t0 t1;exact UR h.tg h.KV _ _ _ this.1 this.2
def AB2(h:m.DM)(os:iS)(a:∀ o∈os,0<=o/\o<aa m.AE):m.exK os≠[]:=by rw[YN];intro e;have:=YP (m:=m) os [];rw[e]at this;exact jx h os _ a this.symm
def uM(h:m.DM)(a first b w):m.finR a first b w≠[]:=by rw[finR];split;simp;split;intro e;have:=cN.1 e;rw[<- YN]at this;exact AB2 h _ (λo c=>wysI_rng c) this;simp
def begR(BN:iS)(first:Int)(DN:iS)(by_:Int):List JW:=(m.exL by_).flatMap (m.finR BN first DN)
def ia(h:m.DM)(b c){d:Int}(t0:0<=d)(t1:d<m.AE.length):m.begR b (c.headD d) c d=(m.strL b c d).map BB.r:=by
 have e:=h.tg d t0 t1;rw[begR,strL,cO,<- fA,WD];have:∀ l:List _,(∀ w∈l,0<=w.BD)->l.flatMap (m.finR b (c.headD d) c)=l.flatMap λw=>(m.strW b (c.headD d) c (IG w)).map BB.r:=by
  intro l g
  induction l with|nil=>rfl|cons a r ih=>rw[FY,FY,uh h.tg _ _ _ (g a (by simp)),ih λw f=>g w (by simp[f])]
 exact this _ λw f=>(YW h.tg _ _ _ e.1 e.2 w f).1
def ES.tl{n t l i}(h:m.DM)(hi:ES m (m.exL t) l i)(a:i=l.length\/n<l.length):TL n l (m.exL t):=by rcases a with rfl|a;exact .inl hi.CK;exact .inr ⟨a,GU a (hi.len h.tg h.KV)⟩
def ES.zero(h:m.DM){t:Int}(t0:0<=t)(t1:t<aa m.AE):ES m (m.exL t) [⟨[t],m.tg t,ab⟩] 0:=by have b:=h.tg t t0 t1;refine⟨?_,λw a=>?_,λw a=>(by cases a),CB _⟩;rw[FY,NQ,DW,exW,AA (by simp)];rfl;rw[CP.1 a];exact⟨λx c=>by rw[CP.1 c];exact⟨t0,t1⟩,b,λ_=>by simp,by simp⟩
def wayR(m:PM)(most:Nat):Nat->List DI->Nat->List DI
 |0,L,_=>L|f+1,L,i=>match L[i]? with|none=>L|some w=>if most<aa L then L else if m.doneW w=ad then wayR m most f L (i+1)else wayR m most f (L.take i++m.moreW w++L.drop (i+1)) i
def wayR_end{most f i L}(h:L[i]?=ah):wayR m most (f+1) L i=L:=by rw[wayR,h]
def wayR_at{most f i L w}(h:L[i]?=ae w):wayR m most (f+1) L i=if most<L.length then L else if m.doneW w=ad then wayR m most f L (i+1)else wayR m most f (L.take i++m.moreW w++L.drop (i+1)) i:=by rw[wayR,h]
def W_(h:m.DM){most t}:∀ f L i,ES m (m.exL t) L i->ES.GK m L i<f->L.length<=most+512->TL most (wayR m most f L i) (m.exL t)/\(wayR m most f L i).length<=most+512/\∀ w∈wayR m most f L i,m.IU w
 |0,L,i,hI,hf,hl=>by omega|f+1,L,i,hI,hf,hl=>by
  rcases a:L[i]? with _|w;have:=lb.1 a;have:=hI.le;rw[wayR_end a];exact⟨hI.tl h (.inl (by omega)),hl,hI.ok⟩;rw[wayR_at a];have e:=hI.ok w (DY a);split;rename_i q;exact⟨hI.tl h (.inr q),hl,hI.ok⟩;split;rename_i q;have:=hI.next a q;exact W_ h f L _ this.1 (by omega) hl;rename_i d q;have:=hI.more h.tg a (by simpa using q);have b:aa (m.moreW w)<=512:=by rw[moreW,BC];have:=wysI_len (m:=m) w.BD ab (aa m.AE);have:=h.lw;unfold outI;omega
  have c:=(DG.1 a).1;refine W_ h f _ i this.1 (by omega) ?_;simp only[BQ,CZ,EJ];omega
def waysR(m:PM)(most:Nat)(t:Int):List DI:=wayR m most (ES.GK m [⟨[t],m.tg t,ab⟩] 0+1) [⟨[t],m.tg t,ab⟩] 0
def waysR_ok(h:m.DM){most}{t:Int}(t0:0<=t)(t1:t<m.AE.length):TL most (m.waysR most t) (m.exL t)/\(m.waysR most t).length<=most+512/\∀ w∈m.waysR most t,m.IU w:=
 W_ h _ _ _ (.zero h t0 t1) (GH _) (by simp)
def fanS(m:PM)(most:Nat)(rows:List (List DI))(o:Int):List (List DI):=Np most (λrow=>(m.waysR most o).map λw=>row++[w]) rows []
def fansR(m:PM)(most:Nat)(os:iS):List (List DI):=os.foldl (m.fanS most) [[]]
def fansR_snoc(most os o):m.fansR most (os++[o])=m.fanS most (m.fansR most os) o:=by rw[fansR,KI];rfl
structure WS(m:PM)(most k:Nat)(L:List (List DI)):Prop where
 le:aa L<=most+(most+512)
 row:∀ r∈L,aa r=k/\∀ w∈r,m.IU w
def vB(h:m.DM){most k L}{o:Int}(g:0<=o)(f:o<m.AE.length)(i:m.WS most k L):m.WS most (k+1) (m.fanS most L o):=by have e:=waysR_ok h (most:=most) g f;refine⟨ZO qz λr _=>by rw[BC];exact e.2.1,gj (λx c=>by cases c) λr b x c=>?_⟩;obtain⟨w,d,rfl⟩:=CY.1 c;have b:=i.row r b;refine⟨by rw[BQ,b.1];rfl,λu a=>?_⟩;rcases DX.1 a with a|a;exact b.2 u a;rw[CP.1 a];exact e.2.2 w d
def fansR_ok(h:m.DM)(most):∀ n (os:iS),os.length=n->(∀ o∈os,0<=o/\o<m.AE.length)->m.WS most os.length (m.fansR most os)/\TL most (m.fansR most os) (m.exK os):=by
 intro n
 induction n with
 |zero=>intro os c _;obtain rfl:=GL.1 c;exact⟨⟨by show 1<=_;omega,λr i=>by rw[CP.1 i];exact⟨rfl,λw d=>by cases d⟩⟩,.inl rfl⟩
 |succ n ih=>intro os c f;obtain⟨os,o,rfl⟩:∃ r a,os=r++[a]:=⟨os.dropLast,os.getLast (by intro e;rw[e]at c;simp at c),(lW _).symm⟩;have⟨j,h2⟩:=ih os (by simpa using c) λx g=>f x (by simp[g]);have b:=f o (by simp);have d:=waysR_ok h (most:=most) b.1 b.2;rw[fansR_snoc,qb,BQ];refine⟨vB h b.1 b.2 j,gv h2 (λrow _=>d.1.map _) λrow e=>?_⟩;exact AB3 h b.1 b.2 (cN.1 e)
def finX(m:PM)(most:Nat)(BN:iS)(first:Int)(DN:iS)(w:DI):List JW:=
 if w.EC=ad then[⟨BN,first,w.AP,DN++w.AP,[],ad⟩]
 else if m.allP w.BD=ad then(m.fansR most (m.outI w.BD)).map λrow=>⟨BN,first,w.AP++row.flatMap (·.AP),DN++w.AP,rowEnds row,row.any (·.EC)⟩
 else[⟨BN,first,w.AP,DN++w.AP,[(w.BD,[])],ab⟩]
def th(h:m.DM)(most a first b w):TL most (m.finX most a first b w) (m.finR a first b w):=by rw[finX,finR];split;exact .inl rfl;split;rw[<- YN];exact((fansR_ok h _ _ _ rfl λo c=>wysI_rng c).2).map _;exact .inl rfl
def finX_len(h:m.DM)(most a first b w):(m.finX most a first b w).length<=most+(most+512):=by rw[finX];split;show 1<=_;omega;split;rw[BC];exact(fansR_ok h _ _ _ rfl λo c=>wysI_rng c).1.le;show 1<=_;omega
def begX(m:PM)(most:Nat)(BN:iS)(first:Int)(DN:iS)(by_:Int):List JW:=Np most (m.finX most BN first DN) (m.waysR most by_) []
def iR(h:m.DM)(most a first b){c:Int}(t0:0<=c)(t1:c<m.AE.length):TL most (m.begX most a first b c) (m.begR a first b c)/\(m.begX most a first b c).length<=most+(most+(most+512)):=
 ⟨gv (waysR_ok h t0 t1).1 (λw _=>th h most a first b w) λw=>uM h _ _ _ w,ZO qz λw _=>finX_len h most a first b w⟩
def begT(m:PM)(most:Nat)(t:Int):List JW:=
 if m.kd (m.tg t)=7 then(if(m.intoI (m.tg t)).headD (-1)=t then m.begX most ((m.intoI (m.tg t)).map m.sc) t (m.intoI (m.tg t)) ((m.outI (m.tg t)).headD 0)else[])
 else if m.kd (m.sc t)=1\/m.kd (m.sc t)=3\/m.kd (m.sc t)=4\/m.kd (m.sc t)=8\/m.kd (m.sc t)=9 then m.begX most [m.sc t] t [] t else[]
def begT_ok(h:m.DM)(most){t:Int}(t0:0<=t)(t1:t<m.AE.length):TL most (m.begT most t) ((m.beginL t).map BB.r)/\(m.begT most t).length<=most+(most+(most+512)):=by
 rw[begT,beginL];split;rename_i j;have c:=h.tg t t0 t1;have⟨l,f,k⟩:=h.VI _ c.1 c.2 j;have b:=join_beg h t0 t1 j;split;rename_i i;have e:(m.intoI (m.tg t)).headD ((m.outI (m.tg t)).headD 0)=t:=by rcases g:m.intoI (m.tg t) with _|⟨a,r⟩;rw[g]at f;cases f;rw[g]at i;exact i
 have:=iR h most ((m.intoI (m.tg t)).map m.sc) t (m.intoI (m.tg t)) b.PN.1 b.PN.2;have d:=ia h ((m.intoI (m.tg t)).map m.sc) (m.intoI (m.tg t)) b.PN.1 b.PN.2;rw[e]at d;rw[d]at this;exact this;exact⟨.inl rfl,CB _⟩;split;have:=iR h most [m.sc t] t [] t0 t1;have d:=ia h [m.sc t] [] t0 t1;rw[show([]:iS).headD t=t from rfl]at d;rw[d]at this;exact this;exact⟨.inl rfl,CB _⟩
def cntB(n:Nat)(p:Nat->Bool):Nat:=aa ((aE n).filter p)
def cntB_le(n p):cntB n p<=n:=by have:=IJ p (aE n);rwa [HV]at this
def ga{n p q}(h:∀ v,p v=ad->q v=ad):cntB n p<=cntB n q:=by unfold cntB;rw[<- lV,<- lV];exact List.countP_mono_left λv _=>h v
def nO{n p q}(h:∀ v,p v=ad->q v=ad){u}(d:u<n)(c:p u=ab)(h2:q u=ad):cntB n p<cntB n q:=by
 induction n with
 |zero=>omega|succ n ih=>
  have e:∀ p,cntB (n+1) p=cntB n p+if p n=ad then 1 else 0:=λp=>by unfold cntB;rw[HW,HH,BQ,OR,G_];split<;>rfl
  rw[e,e];by_cases a:u=n;subst a;have:=ga (n:=u) h;rw[AA (by rw[c];simp),AF h2];omega;have:=ih (by omega);have b:=h n;split;rename_i q;rw[AF (b q)];omega;split<;>omega
def addB(es:iS)(p:Nat->Bool):Nat->Bool:=λv=>p v||es.contains (v:Int)
def newB(es:iS)(p:Nat->Bool):Bool:=es.any λe => !p e.toNat
structure GJ(m:PM)(L:List BB)(s:BB)(p0:Nat->Bool)(k:Nat)(p:Nat->Bool)(more:Bool):Prop where
 low:∀ S:Int->Prop,(∀ v∈s.BD,S v)->m.Closed L S->∀ v:Nat,p v=ad->S v
 st:∀ v∈s.BD,p v.toNat=ad
 sub:∀ v,p0 v=ad->p v=ad
 no:more=ab->(∀ v,p v=p0 v)/\∀ x∈L.take k,m.kd (srcOf x)=4->p (srcOf x).toNat=ad->∀ e∈x.BD,p e.toNat=ad
 NE:more=ad->cntB (aa m.AN) p0<cntB (aa m.AN) p
def GJ.skip{L s x f p k more}(h:GJ m L s f k p more)(g:L[k]?=ae x)(b:m.kd (srcOf x)≠4\/p (srcOf x).toNat=ab):GJ m L s f (k+1) p more:=by refine⟨h.low,h.st,h.sub,λq=>⟨(h.no q).1,λy a d c e i=>?_⟩,h.NE⟩;rw[take_at g]at a;rcases DX.1 a with a|a;exact(h.no q).2 y a d c e i;rw[CP.1 a]at d c;rcases b with b|b;exact absurd d b;rw[b]at c;cases c
def GJ.add{L s x z p k more}(B:∀ x∈L,m.AtOk x)(j:x.BN≠[])(D:0<=srcOf x)(h:GJ m L s z k p more)(A:L[k]?=ae x)(F:m.kd (srcOf x)=4)(E:p (srcOf x).toNat=ad):GJ m L s z (k+1) (addB x.BD p) (more||newB x.BD p):=by
 have c:=DY A;have i:srcOf x∈x.BN:=headD_mem j;have b:∀ v,p v=ad->addB x.BD p v=ad:=λv a=>by rw[addB,a];rfl
 have d:∀ e∈x.BD,addB _ p _=ad:=λe g=>by have:=B x c e g;rw[addB,show((e.toNat:Nat):Int)=e by omega,HS.2 g,KG]
 refine⟨λS C h2 v a=>?_,λv a=>b _ (h.st v a),λv a=>b _ (h.sub v a),λq=>?_,λq=>?_⟩;rw[addB,F_]at a;rcases a with a|a;exact h.low S C h2 v a;have:=h.low S C h2 _ E;rw[show(((srcOf x).toNat:Nat):Int)=srcOf x by omega]at this;exact h2 x c _ i this F _ (HS.1 a);rw[PY]at q;have⟨w,t⟩:=q;rw[newB,JF]at t;have e:addB x.BD p=p:=by funext v;rw[addB];cases G:x.BD.contains _;rw[DZ];have:=t _ (HS.1 G);rw[GZ]at this;simp at this;rw[this];rfl
 rw[e]at d⊢;refine⟨(h.no w).1,λy f r o=>?_⟩;rw[take_at A]at f;rcases DX.1 f with f|f;exact(h.no w).2 y f r o;rw[CP.1 f];exact d
 .cases hm:more;rw[hm,CH,newB,FX]at q;have⟨e,g,n⟩:=q;have H:=B x c e g;have l:p e.toNat=ab:=by simpa using n
  refine nO (λv a=>b v (h.sub v a)) (by omega) ?_ (d e g);rw[<- (h.no hm).1];exact l;exact GU (h.NE hm) (ga b)
def GJ.again{L s a p k more}(h:GJ m L s a k p more):GJ m L s p 0 p ab:=
 ⟨h.low,h.st,λ_ h=>h,λ_=>⟨λ_=>rfl,λx b=>by cases b⟩,λq=>by cases q⟩
def GJ.CK{L s t p}(q:∀ x∈L,m.AtOk x)(l:m.AtOk s)(g:∀ x∈L,∀ v∈x.BN,m.kd v=4->x.BN=[v])(h:GJ m L s t L.length p ab)(n:∀ v,p v=ad->v<m.AN.length): m.reachL L s=((aE m.AN.length).filter p).map fun(v:Nat)=>(v:Int):=by
 have i:=(h.no rfl).2;rw[B_]at i;have w:LN m L s (((aE (aa m.AN)).filter p).map fun(v:Nat)=>(v:Int)):=by
  have d:∀ u,u∈((aE (aa m.AN)).filter p).map (fun(v:Nat)=>(v:Int))↔0<=u/\p u.toNat=ad:=by intro u;rw[CY];constructor;rintro⟨v,c,rfl⟩;refine⟨by omega,?_⟩;rw[GZ];exact(IY.1 c).2;rintro⟨A,f⟩;exact⟨u.toNat,IY.2 ⟨DC.2 (n _ f),f⟩,by omega⟩
  refine⟨?_,λv c=>?_,λv c=>(d v).2 ⟨(l v c).1,h.st v c⟩,λx j v c k o u f=>?_,λS z h2 v c=>?_⟩;rw[lf,cQ];exact(List.Pairwise.filter _ lg).imp fun{a b} h=>by omega
  have:=(d v).1 c;have:=n _ this.2;omega;have e:=g x j v c o;have r:srcOf x=v:=by rw[srcOf,e];rfl
  exact(d u).2 ⟨(q x j u f).1,i x j (by rw[r];exact o) (by rw[r];exact((d v).1 k).2) u f⟩;have:=(d v).1 c;have:=h.low S z h2 _ this.2;rwa [show((v.toNat:Nat):Int)=v by omega]at this
 rw[iC q l w];congr 1;refine TH λv c=>?_;rw[FW,HS,CY];constructor;rintro⟨u,f,e⟩;have:u=v:=zo;rw[<- this];exact(IY.1 f).2;intro y;exact⟨v,IY.2 ⟨c,y⟩,rfl⟩
def at_r(s:BB):s.r.AT.map (·.1)=s.BD:=by rw[BB.r,BB.BD];split<;>rfl
def addB_nil(p):addB [] p=p:=by funext v;simp[addB]
def addB_old{es e p}(c:0<=e)(h:addB es p e.toNat=ad):addB (es++[e]) p=addB es p/\newB (es++[e]) p=newB es p:=by have h2:=h;rw[addB,show((e.toNat:Nat):Int)=e by omega]at h2;constructor;funext v;by_cases b:v=e.toNat;rw[b,h,addB,show((e.toNat:Nat):Int)=e by omega];simp;have:¬(v:Int)=e:=zo;simp[addB,this];rw[newB,WA,HR,TF,DZ];cases a:p _;rw[a,CH]at h2;have:newB es p=ad:=FX.2 ⟨e,HS.1 h2,by rw[a];rfl⟩;rw[show es.any _=ad from this,newB,show es.any _=ad from this];rfl;rw[newB];simp
def addB_new{es e p}(a:0<=e)(h:addB es p e.toNat=ab):addB (es++[e]) p=(λv=>addB es p v||v==e.toNat)/\newB (es++[e]) p=ad:=by
 constructor;funext v;have:((v:Int)==e)=(v==e.toNat):=by rw[FW,CX,CX];omega
 simp only[addB,NK,WA,HR,TF,DZ,this];cases p v<;>simp;rw[addB,PY]at h;exact FX.2 ⟨e,by simp,by rw[h.1];rfl⟩
def GJ.start{L s}:GJ m L s (addB s.BD λ_=>ab) 0 (addB s.BD λ_=>ab) ab\/∃ v∈s.BD,v<0:=by by_cases h:∃ v∈s.BD,v<0;exact .inr h;refine .inl ⟨λS c _ v a=>?_,λv a=>?_,λ_ h=>h,λ_=>⟨λ_=>rfl,λx b=>by cases b⟩,λq=>by cases q⟩;rw[addB,CH]at a;exact c _ (HS.1 a);have:¬v<0:=λq=>h ⟨v,a,q⟩;rw[addB,CH,show((v.toNat:Nat):Int)=v by omega];exact HS.2 a
def addB_rng{es:iS}{p}{n:Nat}(b:∀ v,p v=ad->v<n)(c:∀ e∈es,0<=e/\e<n):∀ v,addB es p v=ad->v<n:=by intro v a;rw[addB,F_]at a;rcases a with a|a;exact b v a;have:=c _ (HS.1 a);omega
def right_end{s R i}(h:i<s.AT.length)(a:m.endB s i=ab):m.rightS s R=ab:=by rw[FV];intro q;simp only[rightS,BP,ER,DC]at q;rw[q.1.1 i h]at a;cases a
def right_eff{s R}(a:m.fixB (srcOf s)=ad)(h2:m.forkedB s.DE=ad):m.rightS s R=ab:=by simp[rightS,a,h2]
def right_reach{s R v}(a:v∈R)(h:m.inReach s v=ab):m.rightS s R=ab:=by rw[FV];intro q;simp only[rightS,BP,ER]at q;rw[q.2 v a]at h;cases h
def right_lost{s R}(h:s.lost=ad):m.rightS s R=ab:=by
 have⟨e,b,h⟩:=FX.1 h;obtain⟨i,a,rfl⟩:=TI b;refine right_end a ?_;have:endAt s i=s.AT[i]:=by rw[endAt,DK,AY a];rfl
 simp[endB,this,h]
def right_yes{s R}(b:∀ i,i<s.AT.length->m.endB s i=ad)(h2:m.fixB (srcOf s)=ad->m.forkedB s.DE=ab)(a:∀ v∈R,m.inReach s v=ad):m.rightS s R=ad:=by simp only[rightS,BP,ER,DC];refine⟨⟨b,?_⟩,a⟩;cases q:m.fixB _;rfl;rw[h2 q];rfl
def ends_r{s:BB}(h:s.lost=ab):s.r.AT=s.AT:=by show(if s.lost=ad then[]else s.AT)=_;rw[h];rfl
def ends_lost{s:BB}(h:s.lost=ad):s.r.AT=[]:=AF h
end PM
end
open Go.Proofs
set_option maxHeartbeats 4000000
set_option maxRecDepth 10000
def Ve(c:AH)(w:DI):V:=.agg [Za c 1 () (Zb w.AP),w.BD,w.EC]
def Wh(c w):Ve c w=.agg [Za c 1 () (Zb w.AP),w.BD,w.EC]:=rfl
@[go_sem] def zt(g c w):(Ve c w).recol g=Ve (g c) w:=by simp only[Wh,X9,BI,BV,Xr,M9,Xv]
@[go_sem] def gF(g c c1 s):(Za c 3 (Ve c1) s).recol g=Za (g c) 3 (Ve (g c1)) s:=Xz g c 3 (zt g c1) s
def Aw(G)(hG:Yy G)(c d m)(B:m.p.DM)(t:Int)(t0:0<=t)(t1:t<m.p.AE.length)(most:Nat)(hmo:most<100000):Spec () G 37 [Zw c d m,t,most] Zm (Za .new 3 (Ve .new) (Zb (m.p.waysR most t))):=by
 have hnw:=m.nw;have hlw:=B.lw;have hwl:aa m.AE.l<=512:=zo;have htg:=B.tg t t0 t1;have hz:=PM.ES.zero B t0 t1;refine Zo 0 _ _ func37 λX=>?_;refine Zf Zj ?_;intro g3;refine Y2 (λo=>o==3) [1,2] [] (l:=[(3,qW (Zw c d m))]) (m:=[]) ?_ trivial ?_;simp -implicitDefEqProofs only[go_sem,seval];exact CS zp (by rw[Zj];exact zp);obtain⟨n,y,rfl,hn,hgy,ey⟩:=m.wyAt t0 t1;have etg:m.p.tg (n:Int)=y.target:=by rw[PM.tg,ey];rfl
 refine Ym (j5 hgy hn Z6 Zj Ya) ?_;intro g15 g24;rw[<- etg];refine Y2 (λo=>o==15) [2,3,7] [] (l:=[]) (m:=[(24,qC g24 0 (Ve .new ⟨[(n:Int)],m.p.tg n,ab⟩).cells)]) trivial ?_ ?_;simp only[Z2,Z5,CE];exact D_ (cs:=[.A_ 15 g15 0 1 1,(m.p.tg n),ab]) rfl zp ⟨Xm (f:=V.int .i64) (l:=[(n:Int)]) rfl zp λ_=>rfl,Zd,Zd,AJ⟩;refine Y2 (λo=>o==24) [2,3] [] (l:=[(7,Za .new 3 (Ve .new) (Zb [⟨[(n:Int)],m.p.tg n,ab⟩]))]) (m:=[]) ?_ trivial ?_;simp -implicitDefEqProofs only[go_sem,seval];exact Xm (f:=Ve .new) (l:=[⟨[(n:Int)],m.p.tg n,ab⟩]) rfl zp λ_=>rfl;refine Z ?_;refine J5 (fun(x:List DI×Nat)=>st [(2,most),(3,qW (Zw c d m)),(7,Za .new 3 (Ve .new) (Zb x.1)),(8,qI x.2)] []) (λx=>PM.ES m.p (m.p.exL n) x.1 x.2/\aa x.1<=most+512/\∃ f,PM.ES.GK m.p x.1 x.2<f+1/\m.p.waysR most n=PM.wayR m.p most (f+1) x.1 x.2) (λx=>PM.ES.GK m.p x.1 x.2) ([⟨[(n:Int)],m.p.tg n,ab⟩],0) ⟨hz,zS,_,GH _,rfl⟩ qs ?_;rintro⟨L,i⟩ ⟨O,E,I,hfu,a⟩ K1 N;replace O:PM.ES m.p (m.p.exL n) L i:=O;replace E:aa L<=most+512:=E;replace hfu:PM.ES.GK m.p L i<I+1:=hfu;replace a:m.p.waysR most n=PM.wayR m.p most (I+1) L i:=a;have hil:=O.le;have eL:(Zb L).l=L:=Zl _;rw[a];by_cases Y:i<aa L
 rotate_left;have x1:=zV ((i:Int)<(aa L:Int));rw[PM.wayR_end (lb.2 zo)];exact Zq (zi eL x1);have x1:=zU ((i:Int)<(aa L:Int));have hg:=AY Y;rw[PM.wayR_at hg]at a⊢
 by_cases hm:aa L<=most
 rotate_left;have x2:=zV ((aa L:Int)<=(most:Int));rw[AF zo];exact Zq (j3 eL x1 x2);have x2:=zU ((aa L:Int)<=(most:Int));rw[AA zo]at a⊢;have C:=O.ok _ (BT Y);have M:=λh=>O.next hg h;have W:=λh=>O.more B.tg hg h;generalize L[i]=w at hg C M W a⊢;have f:=j5 eL hg Y Wh Ya;refine Ym (j3 x1 x2 f) ?_;refine Ym f ?_;intro g9;refine Y2 (λo=>o==9) [2,3,7,8] [] (l:=[(9,qW (Ve .new w))]) (m:=[]) ?_ trivial ?_;simp -implicitDefEqProofs only[go_sem,seval];exact CS (v:=Ve .new w) zp zp
 have Q:qN ((i:Int)+1)=((i+1:Nat):Int):=by rw[Xi zo zo];omega
 have T:=xZ G hG c.ent d.ent m zo w.BD C.BD.1 C.BD.2;have b:m.p.doneW w=(w.EC || !m.p.oneP w.BD):=rfl;cases J:w.EC;rotate_left;rw[J,LA]at b;obtain⟨H,h2⟩:=M b;rw[AF b]at a⊢;obtain⟨r,rfl⟩:∃ r,I=r+1:=⟨I-1,zo⟩;refine Zf (j3 J Q Wh) ?_;exact N _ ⟨(L,i+1),h2,⟨H,E,r,(by show PM.ES.GK m.p L (i+1)<r+1;omega),a⟩,AO (zq Q) zp⟩;rw[J,CH]at b;refine Zf (j3 J Wh Zj) ?_;refine Zc hG ?_ (s:=T);cases q2:m.p.oneP w.BD;rw[q2,PX]at b;obtain⟨H,h2⟩:=M b;rw[AF b]at a⊢;obtain⟨r,rfl⟩:∃ r,I=r+1:=⟨I-1,zo⟩;refine Zg (j3 q2 Q Wh) ?_;exact N _ ⟨(L,i+1),h2,⟨H,E,r,(by show PM.ES.GK m.p L (i+1)<r+1;omega),a⟩,AO (zq Q) zp⟩;rw[q2,GR]at b;obtain⟨H,h2⟩:=W b;rw[AA (by rw[b];simp)]at a⊢;obtain⟨r,rfl⟩:∃ r,I=r+1:=⟨I-1,zo⟩;have hmd:m.p.moreW w=(m.p.outI w.BD).map λt=>⟨w.AP++[t],m.p.tg t,w.AP.contains t⟩:=rfl;have F:=Nt G hG c.ent d.ent m zo w.BD;have S:∀ t∈m.p.outI w.BD,0<=t/\t<aa m.p.AE:=λt ht=>PM.wysI_rng ht;have U:aa (m.p.outI w.BD)<=512:=CT (PM.wysI_len (m:=m.p) w.BD ab (aa m.p.AE)) hlw;rw[hmd]at H h2 a⊢;rw[<- a];generalize m.p.outI w.BD=out at F S U H h2 a;have P:(Zb out).l=out:=Zl _;refine Zg (j3 q2 Wh Zj) ?_;refine Zc hG ?_ (s:=F);refine Z ?_;refine Wy (aa out) (λk  g=>st [(2,most),(3,qW (Zw c d m)),(7,Za .new 3 (Ve .new) (Zb L)),(8,i),(9,qW (Ve .new w)),(10,AZ 88 g 3 ((out.take k).map λt=>(⟨w.AP++[t],m.p.tg t,w.AP.contains t⟩:DI))),(11,qE (Zb out)),(12,k)] [(88,Z9 g (Ve .new) ((out.take k).map λt=>(⟨w.AP++[t],m.p.tg t,w.AP.contains t⟩:DI)))]) (λ_ _=>True) 0 0 qz trivial (AO (zq (j3 @Zj @Wh J)) zp) ?_;intro k g hk _ K2 A;by_cases q:k<aa out
 .have D:=zU ((k:Int)<(aa out:Int));have hgk:=AY q;have K:=S _ (BT q);have htk:out.take (k+1)=out.take k++[out[k]]:=DO q;have R:(out.drop k).take 1=[out[k]]:=by rw[FL q];rfl
  rw[htk,DL,BI,BV]at A;have hlk:aa ((out.take k).map λt=>(⟨w.AP++[t],m.p.tg t,w.AP.contains t⟩:DI))=k:=by rw[BC,CZ];omega
  generalize out[k]=u at hgk K R A;generalize((out.take k).map λt=>(⟨w.AP++[t],m.p.tg t,w.AP.contains t⟩:DI))=acc at A hlk⊢;obtain⟨un,z,rfl,hun,hgz,ez⟩:=m.wyAt K.1 K.2;have etz:m.p.tg (un:Int)=z.target:=by rw[PM.tg,ez];rfl
  have hpl:=C.len J;have w1:=wQ ((k:Int)+1);have b1:(0:Int)<=(k:Int)+1:=zo;have b2:((k:Int)+1).toNat=k+1:=zo;have b3:k<=k+1:=zo;have b4:k+1<=aa out:=q;refine Ym (zi D P) ?_;refine H_ (zi D P) ?_
  repeat first|refine BK ?_|refine Zz ?_
  refine Zv ⟨λj=>if j=8 then qE (Zb (w.AP++[(un:Int)]))else .bool (w.AP.contains (un:Int)),λ_=>.pure⟩ zk hG zk zk ?_;simp -implicitDefEqProofs only[go_sem,seval,P,hgk,q,w1,b1,b2,b3,b4,hgz,hun,Z6,Zj,Wh,GY];refine⟨⟨zk,?_⟩,⟨zk,?_⟩,λg87=>?_⟩;simp -implicitDefEqProofs only[go_sem,seval];refine(Hj G _ _ (Zb w.AP) ((Zb out).sub k (k+1)) (by rw[Zl];omega) (by rw[Mq,P,CZ];omega)).mono λv _ e=>?_;rw[e,Zl,Mq,P,show k+1-k=1 by omega,R,Xv];rfl;simp -implicitDefEqProofs only[go_sem,seval];refine(x7 G _ (Zb w.AP) un (by rw[Zl];omega)).mono λv _ e=>?_;rw[e,Zl];rfl;rw[etz]at A;refine Yg (f:=Ve .new) (l:=acc) (l2:=[⟨w.AP++[(un:Int)],z.target,w.AP.contains (un:Int)⟩]) BE rfl rfl rfl zp (Z3 zo zO) λg2=>?_;refine Zs ?_;refine Zf w1 ?_;exact A _ ⟨q,g2,AJ,AO (zq (j3 @Zj @Wh J)) zp⟩
 have hke:k=aa out:=zo;have D:=zV ((aa out:Int)<(aa out:Int));have hml:aa (out.map λt=>(⟨w.AP++[t],m.p.tg t,w.AP.contains t⟩:DI))<=512:=by rw[BC];exact U
 rw[hke,B_];generalize(out.map λt=>(⟨w.AP++[t],m.p.tg t,w.AP.contains t⟩:DI))=more at H h2 a hml⊢;have eM:(Zb more).l=more:=Zl _;refine Y2 (λo=>o==88) [2,3,7,8,9,11,12] [] (l:=[(10,Za .new 3 (Ve .new) (Zb more))]) (m:=[]) ?_ trivial ?_;simp -implicitDefEqProofs only[go_sem,seval];exact Yp (l:=more) (f:=Ve .new) rfl zp BE;have hi2:i<=aa L:=LL Y;refine Zf (j7 D P eL eM hi2 @CB @DS) ?_;refine Yg (f:=Ve .new) (l:=([]:List DI)) (l2:=L.take i) (g:=0) BE rfl rfl rfl zp (Z3 zo zO) λg1=>?_;refine Zs ?_;refine Zf (zi eM @IS) ?_;refine U5 (f:=Ve .new) (l:=L.take i) (l2:=more) (o:=93) BE rfl rfl rfl zr (Z3 zo zO) λo2 g2 ho=>?_;refine Zs ?_;have hi3:i+1<=aa L:=Y;have hd:(L.drop (i+1)).take (aa L-(i+1))=L.drop (i+1):=HY (by rw[EJ];exact BO _);refine Zf (j6 Q eL hi3 hd @BO @DS) ?_;refine U5 (f:=Ve .new) (l:=L.take i++more) (l2:=L.drop (i+1)) (o:=o2) BE rfl rfl rfl zr (Z3 zo (by simp only[BQ,CZ,EJ];omega)) λo3 g3 ho=>?_;refine Zs ?_;refine N _ ⟨(L.take i++more++L.drop (i+1),i),h2,⟨H,by simp only[BQ,CZ,EJ];omega,r,(by show PM.ES.GK m.p (L.take i++more++L.drop (i+1)) i<r+1;omega),a⟩,Z4 (λo=>o==o3) ?_ trivial⟩;refine Zs ?_;exact⟨Zd,Zd,Yp (l:=L.take i++more++L.drop (i+1)) (f:=Ve .new) zS zp BE,Zd⟩
section
variable{P:Program}{E:BX}
def yP{id ops Q s}(n:Nat)(m:(ops.all (W4 E.n))=ad)(k:Nat.ble n ops.size=ad)(h:Yx P E ops (λs1=>∃ s2,Weak E s1 s2/\Yx P E ops (Q .normal) (ops.toList.drop n) s2) (ops.toList.take n) s):AW P E (.region id ops ab) Q s:=by
 intro a w c;refine wpIn_region ?_;have k:=LK k;have o:∀ f a w,Pan E f a w->Post E Q _ a w:=λf a w h=>.inr ⟨f,rfl,h⟩;have d:aa (ops.toList.take n)=n:=by rw[CZ,IW];omega
 have b:=Jc o
  (λs1 p i g r=>by have⟨s2,q,h2⟩:=r;have:=Jd o (λs a w t h2=>.inl ⟨s,t,h2⟩) m _ n s2 p i (q p i g) (λj=>by grind) h2;rwa [EJ,IW]at this)
  m _ 0 s a w c (λj l=>by rw[d]at l;rw[QH l,EE,PU]) h
 rw[d]at b;have e:(aE n).map (0 + ·)++(aE (ops.size-n)).map (n + ·)=aE ops.size:=by simp only[EE];rw[List.map_id',<- WH];congr 1;omega
 rw[e]at b;exact b
