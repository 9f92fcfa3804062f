/- A part. No condition. -/
import Derived.Test.YtkennpiglkfalaaGreatDoorP39
import Derived.Test.YtkennpiglkfalaaGreatDoorP41
import Derived.Shelf.Spec.SlicesGrow
import Derived.Ground.Names7Prog
set_option linter.all false
open List renaming length->aa
open Bool renaming false->ab
open Option renaming some->ae
open Go.Proofs.Tryz renaming prog->ai
open Go.Proofs.Tryz
open Go.Builtin renaming zeroCells->bh
section
namespace Go.Hs
open Go.Proofs
set_option maxHeartbeats 1000000
set_option maxRecDepth 10000
@[go_sem] def ADx(n ob q o g off):Rx (ae (ab,n)) ob (.view q (.ptr o g off))=ae (.ptr o g off):=rfl
structure JV where
 KW:Int
 region:Int
 depth:Int
 state:Bool
 MA:Bool
 out:TW
 DN:TW
def No(p:JV):V:=.agg [p.KW,p.region,p.depth,p.state,p.MA,p.out.v,p.DN.v]
def lC(p):(No p).cells=[.int .i64 p.KW,.int .i64 p.region,.int .i64 p.depth,.bool p.state,.bool p.MA,p.out.v,p.DN.v]:=rfl
def K7(p):(No p).cells.length=7:=by rw[lC]<;>rfl
structure ll(m:PM)(gx gp:Nat)(k o q:V)(ps:List JV)(H:A'):Prop where
 len:aa ps=aa m.AN
 PQ:∀ (i:Nat) p,ps[i]?=ae p->p.KW=m.around i
 x:H 138=.cells .new gx 0 [.A_ 130 gp 0 (aa ps) 7,k,o,q]
 p:H 130=.cells .new gp 0 (flat (ps.map No))
def xK(G)(hG:Yy G)(m)(a:m.BW)(gx gp U T S)(v:Int)(Y:v<m.AN.length)(g2 g3 H)(h2:H 52=qC g2 0 [.ptr 138 gx 0])(h3:H 53=qC g3 0 [v]):MM ai G 100 102 [.ptr 53 g3 0,.ptr 52 g2 0] H (λk:Int=>[k]) (Mm m v) (λH=>∃ ps,ll m gx gp U T S ps H):=by
 refine Uh _ 0 19 3 [] func102 λX t cl σ R K b E W hd hR hP=>?_;refine BK ?_;refine J5 (fun(w:Int × σ × A')=>⟨Yb Mv [(0,.func t [] cl),(1,.ptr 53 g3 0),(2,.ptr 52 g2 0)],Yb (Yi 100 w.2.2) [(52,qC g2 0 [.ptr 138 gx 0]),(53,qC g3 0 [qI w.1])]⟩)
  (λw=>w.1<aa m.AN/\Oo K b w.2.1 (Mm m w.1)/\R w.2.1 (Yi 100 w.2.2)/\Y4 b E (Mm m v)=Y4 b w.2.1 (Mm m w.1)) (λw=>aa (Mm m w.1)) (v,E,H) ⟨Y,hd,hR,rfl⟩ ?_ ?_
 exact We ⟨rfl,rfl,rfl,AJ⟩ ⟨h2,h3,AJ⟩ rfl;rintro⟨w,s,H1⟩ ⟨A,z,D,g⟩ L hL;simp only at A z D g⊢;by_cases C:0<=w;have F:=zU _;rw[T' a C A]at z g;refine Zz (Zz (Vm [5] zk (by rfl) ?_));simp -implicitDefEqProofs only[go_sem,seval,F,I4];refine⟨_,rfl,Po W s w zp zm z.1 ?_ (λQ d e=>?_) zk (n:=5) rfl zp⟩;refine Zs ?_;exact D;have y:=e 52 zd;have u:=e 53 zd;simp -implicitDefEqProofs only[go_sem,seval]at y u;have h:=z.2;have f:Y4 b E _=if(b s w).1=true then Y4 b _ (Mm m (m.around w))else(ab,(b s w).2):=g;generalize b s w=r at d f h⊢;obtain⟨P,M⟩:=r;refine Zs ?_;refine BM (We (lo:=100) (l:=[(0,.func t [] cl),(1,.ptr 53 g3 0),(2,.ptr 52 g2 0),(10,P)]) (m:=[(52,qC g2 0 [.ptr 138 gx 0]),(53,qC g3 0 [w])]) ⟨rfl,rfl,rfl,rfl,AJ⟩ ⟨y,u,AJ⟩ rfl) ?_;cases P;refine Z ?_;rw[f];refine⟨_,rfl,.inr trivial,?_⟩;show R M _;refine Zs ?_;exact d;obtain⟨ps,c⟩:=hP _ _ d;obtain⟨k,rfl⟩:∃ k:Nat,w=(k:Int):=⟨w.toNat,zo⟩;have N:k<aa ps:=by rw[c.len];omega
 have O:=AY N;have hp:=c.PQ k _ O;have i:(flat (ps.map No))[k*7]?=_:=As K7 (j:=0) zd O (by rw[lC]<;>rfl);have J:=Ww K7 ps;have I:k*7+1<=aa ps*7:=zo;have o:k*7<aa ps*7:=zo;rw[hp]at i;refine Pr (j8 c.x c.p i J I o N Ya) hG ?_;refine Zs ?_;have hr:m.around k<aa m.AN:=by rcases a.DA k C A with q|q<;>omega
 refine hL _ ⟨(m.around k,M,Q),?_,⟨hr,h rfl,d,by rw[f]<;>rfl⟩,We ⟨rfl,rfl,rfl,AJ⟩ ⟨zp,?_,AJ⟩ ?_⟩;show aa (Mm m (m.around k))<aa (Mm m k);rw[T' a C A];exact GH _;exact zp;exact zp;have F:=zV (w>=0);have e0:Mm m w=[]:=AA C;rw[e0]at g;refine Zf F ?_;refine Zs ?_;rw[g];refine⟨_,rfl,.inr trivial,?_⟩;show R s _;refine Zs ?_;exact D
end Go.Hs
namespace Go.Proofs
open Go.Shelf
def Ae:Go.Shelf.Ren:=⟨fun|4=>210|n=>n,fun|22=>45|25=>3|3=>3|4=>4|9=>9|20=>20|0=>0|n=>n,fun|n=>n⟩
def Bu:Go.Proofs.Lays8.n4 ai Ae:={
 mixed:=by kernel_rfl
 f4:=⟨f210.name,by decide,func210.trans (BU _ (by kernel_rfl))⟩
 t0:=underlying0
 a0:=Tryz.isAgg0
 z0:=Tryz.sizeOf0
 v0:=Tryz.zeroValue0
 t3:=underlying3
 a3:=Tryz.isAgg3
 z3:=Tryz.sizeOf3
 v3:=Tryz.zeroValue3
 t4:=underlying4
 a4:=Tryz.isAgg4
 z4:=Tryz.sizeOf4
 v4:=Tryz.zeroValue4
 t9:=underlying9
 a9:=Tryz.isAgg9
 z9:=Tryz.sizeOf9
 v9:=Tryz.zeroValue9
 t20:=underlying20
 a20:=Tryz.isAgg20
 z20:=Tryz.sizeOf20
 v20:=Tryz.zeroValue20
 t22:=underlying45
 a22:=Tryz.isAgg45
 z22:=Tryz.sizeOf45
 v22:=Tryz.zeroValue45}
end Go.Proofs
namespace Go.Hs
open Go.Proofs
set_option maxHeartbeats 2000000
set_option maxRecDepth 10000
def jr(z n)(h:z.size=1):(bh z n).size=n:=by simp[bh,h]
def w_{G}(N:Yy G)(o n:Nat)(M:n<=1000000000){H K}(d:n=0->K .AG H)(B:n≠0->∀ g,K (.A_ o g 0 0 1) (Ye H o (qC g 0 []))):CallA ai G 210 [.AG,n] H K:=by
 refine⟨zk,λX m q _ A=>?_⟩;obtain⟨x,y,rfl,s,r⟩:=A.two;cases s;cases r;by_cases j:n=0;subst j;refine(show Calls _ _ _ _ _ from Any8.slices_Grow_room Bu _ 0 0 0 _ zo zo zo zo).mono ?_;rintro e w' ⟨rfl,rfl⟩;exact⟨_,.AG,H,X,rfl,rfl,GF q,.AG,d rfl⟩;obtain⟨c,l,f,L,z,b,k⟩:∃ c,ai.info? 3=ae c/\c.bytes=8/\c.size=1/\∃ z,c.zero=ae z/\z.cells.size=1:=by have f:Nq ai 3=ae 8:=zk;have j:Y0 ai 3=ae 1:=zk;have d:((ai.info? 3).bind λi=>i.zero.map λz=>z.cells.size)=ae 1:=zk;unfold Nq at f;unfold Y0 at j;rcases p:ai.info? 3 with _|c;rw[p]at f;cases f;rw[p]at f j d;simp only[NT,GI,IK]at f j d;rcases b:c.zero with _|z;rw[b]at d;cases d;rw[b]at d;simp only[NT,GI]at d;exact⟨c,rfl,f,j,z,b,d⟩
 refine(show Calls ai 210 _ _ _ from Any8.slices_Grow_grow Bu c z l b zo none 0 0 n [] X.w zo zo (by rw[f];omega) zo zS BE (λa u=>by cases u)).mono ?_;rintro e w' ⟨rfl,rfl⟩;have t:=grownCap_ge X.w (0+n) 0 3;have⟨v,J,Y,I,F,D,C⟩:=Ou q o (cap:=grownCap X.w (0+n) 0 3) (xs:=[]) ⟨rfl,λ_ h=>by simp at h,λi h=>by simp at h⟩ rfl qz 3
  (bh z.cells (0+n-0)++bh z.cells (grownCap X.w (0+n) 0 3-(0+n))) (by rw[bV,jr _ _ k,jr _ _ k];omega) .new (.inl rfl) 0 (B j)
 refine⟨_,v,J,Y,rfl,?_,F,D,C⟩;rw[I];simp;rfl
def Ce(l:List (Int)):flat (l.map ())=l.map ():=by induction l with|nil=>rfl|cons x r ih=>unfold flat at ih⊢;rw[BI,FY,ih]<;>rfl
def UL(c:AH)(s:Sl (AH×Sl Int)):V:=Za c 1 (λt=>Za t.1 1 () t.2) s
def Rm(l:List (AH×Sl Int)):iS:=l.flatMap (·.2.l)
def rm:∀ t:AH×Sl Int,aa (Za t.1 1 () t.2).cells=1:=λt=>by have⟨_,t⟩:=t;cases t<;>rfl
def iW{l:List (AH×Sl Int)}{k t}(h:l[k]?=ae t):Rm (l.take (k+1))=Rm (l.take k)++t.2.l:=by unfold Rm;rw[IZ,h,HU];simp
def iz{l k}:(Rm (l.take k)).length<=(Rm l).length:=by
 unfold Rm
 conv=>rhs;rw[<- HX k l,HU,BQ]
 omega
def uK(G)(B:Yy G)(c s)(D:s.l.length<1000000)(E:(Rm s.l).length<1000000)(q:(Rm s.l).length≠0):Spec () G 173 [UL c s] Zm (qE (.mk ab (Rm s.l))):=by
 refine Zo 0 36 _ func173 λX=>?_;unfold UL;refine Z1 ?_;refine Z1 ?_;refine Z1 ?_;refine BK ?_;refine Z8 [0,9,10] [] (aa s.l) (λk  _=>[(3,qI (aa (Rm (s.l.take k)))),(11,k)]) (λ_ _=>[]) (λ_ _=>True) 0 () qz trivial zp zp ?_;intro k _ A _ H x;refine Z1 ?_;refine Zz ?_;refine Zi rfl (λj=>?_) (λj=>?_);have a:=zu j;have e:=AY a;have b:=iW e;have r:=iz (l:=s.l) (k:=k+1);generalize s.l[k]=t at e b;refine Z0 ?_;refine Zz ?_;refine BK ?_;have d:aa (Rm (s.l.take (k+1)))=aa (Rm (s.l.take k))+aa t.2.l:=by rw[b,BQ]
 have z:qN ((aa (Rm (s.l.take k)):Int)+(aa t.2.l:Int))=((aa (Rm (s.l.take k))+aa t.2.l:Nat):Int):=by rw[Xi zo zo];omega
 have p:=zV (((aa (Rm (s.l.take k))+aa t.2.l:Nat):Int)<0);refine Ym e ?_;refine Ym z ?_;refine Ym p ?_;refine Z1 ?_;refine x _ ⟨a,(),AJ,AO (by rw[d];refine Zs ?_;exact BU _ (Xi zo zo)) zp⟩;have a:k=aa s.l:=by simp at j;omega
 refine Z0 ?_;rw[a,B_];refine Z1 ?_;refine w_ B 1024 (aa (Rm s.l)) zo (λh=>absurd h q) λ_ y=>?_;refine Zs ?_;refine Z1 ?_;refine BK ?_;refine Z8 [0,25,26] [] (aa s.l) (λk  g=>[(6,.A_ 1024 g 0 (aa (Rm (s.l.take k))) 1),(27,k)]) (λk g=>[(1024,qC g 0 (flat ((Rm (s.l.take k)).map (V.int .i64))))]) (λ_ _=>True) 0 y qz trivial zp zp ?_;intro k g A _ F w;refine Z1 ?_;refine Zz ?_;refine Zi rfl (λi=>?_) (λi=>?_);have a:=zu i;have e:=AY a;have b:=iW e;have r:=iz (l:=s.l) (k:=k+1);generalize s.l[k]=t at e b;have d:aa (Rm (s.l.take (k+1)))=aa (Rm (s.l.take k))+aa t.2.l:=by rw[b,BQ]
 refine Ym e ?_;refine Z1 ?_;have n:∀ l:List (Int),aa (flat (l.map (V.int .i64)))=aa l:=λl=>by rw[Ce,BC]
 have u:List.take (aa (Rm (s.l.take k))*1) (flat ((Rm (s.l.take k)).map (V.int .i64)))++flat (t.2.l.map (V.int .i64))=flat ((Rm (s.l.take (k+1))).map (V.int .i64)):=by rw[b,DL,T0,GV,HY (by rw[n];omega)]
 refine⟨Z3 zo zo,by rw[n];omega,zo,λC=>?_⟩;rw[u,<- d];refine Z1 ?_;refine w _ ⟨a,C,AJ,AO zw zp⟩;have a:k=aa s.l:=by simp at i;omega
 refine Z0 ?_;rw[a,B_];refine BM (Z4 (λo=>o==1024) (l:=[(6,qE (.mk ab (Rm s.l)))]) (m:=[]) ?_ trivial) ?_;refine Zs ?_;exact Xm (f:=(V.int .i64)) (l:=Rm s.l) rfl zp BE;exact Zr
def E6(G)(b:Yy G)(c c1 l more)(h:l.l.length<400000)(h2:more.l.length<400000)(a:l.l.length+more.l.length≠0):Spec () G 108 [Za c 1 (V.int .i64) l,Za c1 1 (V.int .i64) more] Zm (qE (.mk ab (l.l++more.l))):=by
 refine Zo 0 9 _ func108 λX=>?_;refine Z ?_;intro d;have e:Rm [(c.ent,l),(c1.ent,more)]=l.l++more.l:=by simp[Rm]
 refine Vb (λo=>o==7) [UL .new (.mk ab [(c,l),(c1,more)])] [] ⟨?_,AJ⟩ trivial ?_;exact Xm (l:=[(c,l),(c1,more)]) rfl (by cases l<;>cases more<;>rfl) rm;refine Zc (r:=qE (.mk ab (l.l++more.l))) b ?_ (args':=[UL AH.new.ent (.mk ab [(c.ent,l),(c1.ent,more)])]) (ha:=?_) (s:=?_);exact Zr;rw[BI,BV];refine BU (λv=>[v]) ?_;show V.recol _ (.slice .new ab 1 [Za c 1 (V.int .i64) l,Za c1 1 (V.int .i64) more])=.slice AH.new.ent ab 1 [Za c.ent 1 (V.int .i64) l,Za c1.ent 1 (V.int .i64) more];simp only[V.recol,Xd,Xv];have:=uK G b AH.new.ent (.mk ab [(c.ent,l),(c1.ent,more)]) (show(2:Nat)<1000000 by decide) (by show aa (Rm [(c.ent,l),(c1.ent,more)])<_;rw[e,BQ];omega) (by show aa (Rm [(c.ent,l),(c1.ent,more)])≠0;rw[e,BQ];exact a);rw[show Rm (Sl.mk ab [(c.ent,l),(c1.ent,more)]).l=_ from e]at this;exact this
def uX(G c)(t:Int)(s)(j:s.l.length<1000000):Spec () G 62 [Za c 1 () s,t] Zm (λv _=>v=qI (Oy (t == ·) s.l)):=by refine Zo 0 19 [.tmp 4] func62 λX=>?_;refine Z ?_;refine Z8 [0,1,7] [] (aa s.l) (λk  _=>[(8,k)]) (λ_ _=>[]) (λk _=>∀ y∈s.l.take k,(t==y)=ab) 0 () qz zS zp zp ?_;intro k _ m e n h;by_cases b:k<aa s.l;have a:=zU ((k:Int)<(aa s.l:Int));have d:=AY b;generalize s.l[k]=x at d;have i:=wQ ((k:Int)+1);cases f:(t==x);refine Zf (j4 a d f i) ?_;exact h _ ⟨b,(),V3 d e f,AO zp zp⟩;refine Zf (j3 a d f) ?_;rw[Td d e f];have g:k=aa s.l:=zo;have a:=zV ((k:Int)<(aa s.l:Int));rw[g,B_]at e;refine Zf a ?_;rw[Te e]
def tZ(G c t s)(j:s.l.length<1000000):Spec () G 170 [Za c 1 (V.int .u8) s,.int .u8 t] Zm (λv _=>v=qI (Oy (t == ·) s.l)):=by refine Zo 0 19 [.tmp 4] func170 λX=>?_;refine Z ?_;refine Z8 [0,1,7] [] (aa s.l) (λk  _=>[(8,k)]) (λ_ _=>[]) (λk _=>∀ y∈s.l.take k,(t==y)=ab) 0 () qz zS zp zp ?_;intro k _ m e n h;by_cases b:k<aa s.l;have a:=zU ((k:Int)<(aa s.l:Int));have d:=AY b;generalize s.l[k]=x at d;have i:=wQ ((k:Int)+1);cases f:(t==x);refine Zf (j4 a d f i) ?_;exact h _ ⟨b,(),V3 d e f,AO zp zp⟩;refine Zf (j3 a d f) ?_;rw[Td d e f];have g:k=aa s.l:=zo;have a:=zV ((k:Int)<(aa s.l:Int));rw[g,B_]at e;refine Zf a ?_;rw[Te e]
def Iv(G)(b:Yy G)(c)(t:Int)(s)(a:s.l.length<1000000):Spec () G 26 [Za c 1 () s,t] Zm (s.l.contains t):=by refine Zo 0 9 [.tmp 4] func26 λX=>?_;refine Z ?_;refine Zc b ?_ (s:=uX G _ t s a);refine Z ?_;rw[Mf,<- NK]
def gQ(G)(b:Yy G)(c t s)(a:s.l.length<1000000):Spec () G 105 [Za c 1 (V.int .u8) s,.int .u8 t] Zm (s.l.contains t):=by refine Zo 0 9 [.tmp 4] func105 λX=>?_;refine Z ?_;refine Zc b ?_ (s:=tZ G _ t s a);refine Z ?_;rw[Mf,<- NK]
def Vk(G)(g:Yy G)(b c d e f m h vs)(v:Int)(o:0<=v)(n:v<m.p.AN.length)(ks)(a:ks.l.length<1000000):Spec () G 158 [So b c d e m h vs,v,Za f 1 (V.int .u8) ks] Zm (ks.l.contains (m.p.kd v)):=by refine Zo 0 18 _ func158 λX=>?_;obtain⟨k,x,rfl,a,j,i⟩:=EH o n;rw[PM.kd,i];simp only[Wn];refine Zf (j4 j a Zp Ya) ?_;refine Zc g ?_ (s:=gQ G g _ _ ks (by assumption));exact Zr
def kS(m:BR)(v):m.p.inc v=(m.AE.l.filter λt=>t.target==v).map (·.AV):=by show((m.AE.l.map _).filter _).map _=_;rw[NP,EL]<;>rfl
def gV(m:BR)(v):m.p.out v=(m.AE.l.filter λt=>t.AV==v).map (·.target):=by show((m.AE.l.map _).filter _).map _=_;rw[NP,EL]<;>rfl
def Ix(G)(E:Yy G)(b c d e m y vs)(C:m.AE.l.length<1000000)(v:Int):Spec () G 161 [So b c d e m y vs,v] Zm (qE (Zb (m.p.inc v))):=by
 rw[kS];refine Zo 0 28 _ func161 λX=>?_;simp only[Wn];refine Z ?_;refine Z8 [0,1,11,12] [] (aa m.AE.l) (λk  g=>[(4,AZ 25 g 1 (((m.AE.l.take k).filter λt=>t.target==v).map (·.AV))),(13,k)]) (λk g=>[(25,Z9 g (V.int .i64) (((m.AE.l.take k).filter λt=>t.target==v).map (·.AV)))]) (λ_ _=>True) 0 0 qz trivial (Vw @Wn) zp ?_;intro k g D _ H a;by_cases h:k<aa m.AE.l;have j:=zU ((k:Int)<(aa m.AE.l:Int));have z:=AY h;have n:m.AE.l.take (k+1)=m.AE.l.take k++[m.AE.l[k]]:=by rw[DO h]
 have r:aa (((m.AE.l.take k).filter λt=>t.target==v).map (·.AV))<=k:=by rw[BC];exact CT (IJ _ _) (by rw[CZ];omega)
 generalize m.AE.l[k]=x at z n;have u:=wQ ((k:Int)+1);rw[n]at a;simp only[HH,DL]at a;generalize((m.AE.l.take k).filter λt=>t.target==v).map (·.AV)=i at r a;refine Zf (j3 j z Z6) ?_;intro F;cases q:(x.target==v);rw[JG (by simp[q])]at a;simp only[G_,BV,DW]at a;refine Zf (zi q u) ?_;exact a _ ⟨h,g,AJ,AO (Vw @Wn) zp⟩;rw[KH (by simp[q])]at a;simp only[G_,BV,BI]at a;refine Zf (zi q Z6) ?_;intro A;refine Yg (f:=V.int .i64) (l:=i) (l2:=[x.AV]) BE rfl rfl rfl zp (Z3 zo zO) λB=>?_;refine Zs ?_;refine Zf u ?_;exact a _ ⟨h,B,AJ,AO (Vw @Wn) zp⟩;have s:k=aa m.AE.l:=zo;subst s;rw[B_];have j:decide ((aa m.AE.l:Int)<(aa m.AE.l:Int))=ab:=zS;generalize(m.AE.l.filter λt=>t.target==v).map (·.AV)=i;refine BM (Z4 (λo=>o==25) (l:=[(0,So b c d e m y vs),(4,qE (Zb i)),(12,aa m.AE.l),(13,aa m.AE.l)]) (m:=[]) ?_ trivial) ?_;refine Zs ?_;exact⟨Zd,Yp (l:=i) (f:=V.int .i64) rfl zp BE,Zd⟩;exact Zq j
def Qu(G)(E:Yy G)(b c d e m y vs)(C:m.AE.l.length<1000000)(v:Int):Spec () G 159 [So b c d e m y vs,v] Zm (qE (Zb (m.p.out v))):=by
 rw[gV];refine Zo 0 28 _ func159 λX=>?_;simp only[Wn];refine Z ?_;refine Z8 [0,1,11,12] [] (aa m.AE.l) (λk  g=>[(4,AZ 25 g 1 (((m.AE.l.take k).filter λt=>t.AV==v).map (·.target))),(13,k)]) (λk g=>[(25,Z9 g (V.int .i64) (((m.AE.l.take k).filter λt=>t.AV==v).map (·.target)))]) (λ_ _=>True) 0 0 qz trivial (Vw @Wn) zp ?_;intro k g D _ H a;by_cases h:k<aa m.AE.l;have j:=zU ((k:Int)<(aa m.AE.l:Int));have z:=AY h;have n:m.AE.l.take (k+1)=m.AE.l.take k++[m.AE.l[k]]:=by rw[DO h]
 have r:aa (((m.AE.l.take k).filter λt=>t.AV==v).map (·.target))<=k:=by rw[BC];exact CT (IJ _ _) (by rw[CZ];omega)
 generalize m.AE.l[k]=x at z n;have u:=wQ ((k:Int)+1);rw[n]at a;simp only[HH,DL]at a;generalize((m.AE.l.take k).filter λt=>t.AV==v).map (·.target)=i at r a;refine Zf (j3 j z Z6) ?_;intro F;cases q:(x.AV==v);rw[JG (by simp[q])]at a;simp only[G_,BV,DW]at a;refine Zf (zi q u) ?_;exact a _ ⟨h,g,AJ,AO (Vw @Wn) zp⟩;rw[KH (by simp[q])]at a;simp only[G_,BV,BI]at a;refine Zf (zi q Z6) ?_;intro A;refine Yg (f:=V.int .i64) (l:=i) (l2:=[x.target]) BE rfl rfl rfl zp (Z3 zo zO) λB=>?_;refine Zs ?_;refine Zf u ?_;exact a _ ⟨h,B,AJ,AO (Vw @Wn) zp⟩;have s:k=aa m.AE.l:=zo;subst s;rw[B_];have j:decide ((aa m.AE.l:Int)<(aa m.AE.l:Int))=ab:=zS;generalize(m.AE.l.filter λt=>t.AV==v).map (·.target)=i;refine BM (Z4 (λo=>o==25) (l:=[(0,So b c d e m y vs),(4,qE (Zb i)),(12,aa m.AE.l),(13,aa m.AE.l)]) (m:=[]) ?_ trivial) ?_;refine Zs ?_;exact⟨Zd,Yp (l:=i) (f:=V.int .i64) rfl zp BE,Zd⟩;exact Zq j
def Vn(b c d e f g:AH)(m:BR)(x:LC):V:=.view b (.agg [m.name,Za c 2 Yw m.vars,Za c 1 V.AB m.BF,Za c 2 Yw m.AU,Za c 8 (Y6 d) m.AL,Za c 8 (Xo d) m.AE,I5 e f g x])
def Tt(b c d e f g m x):Vn b c d e f g m x=.view b (.agg [m.name,Za c 2 Yw m.vars,Za c 1 V.AB m.BF,Za c 2 Yw m.AU,Za c 8 (Y6 d) m.AL,Za c 8 (Xo d) m.AE,I5 e f g x]):=rfl
def Sq(q b c d e f g m x):(Vn b c d e f g m x).recol q=Vn (q b) (q c) (q d) (q e) (q f) (q g) m (x.rc q):=by simp only[Tt,V.recol,Xd,Ui,N2,N1,N3,dq]
def ue(b c d e f g m x):(Vn b c d e f g m x).cells=[Vn b c d e f g m x]:=rfl
def sx(b c d e f g m x):(Vn b c d e f g m x).solid=true:=rfl
def px(n ob q b c d x):Rx (ae (ab,n)) ob (.view q (I5 b c d x))=ae (I5 b c d x):=rfl
attribute[go_sem]Sq ue sx px
def T8(G)(a:Yy G)(b c d e f g c1 m x)(v:Int)(o:0<=v)(n:v<m.p.AN.length)(s)(h:s.l.length<1000000):Spec () G 49 [Vn b c d e f g m x,v,Za c1 1 (V.int .u8) s] Zm (s.l.contains (m.p.kd v)):=by
 refine Zo 0 18 _ func49 λX=>?_;obtain⟨k,y,rfl,i,j,r⟩:=m.at o n;have q:m.p.kd (k:Int)=y.AD:=by rw[PM.kd,r]<;>rfl
 rw[q];refine Zf (j5 j i Zp Tt Ya) ?_;refine Zc a ?_ (s:=gQ G a _ _ _ h);exact Zr
def KS(k a:Int):[a].contains k=(k==a):=by show List.elem k _=_;simp only[List.elem];cases k==a<;>rfl
def ABo(k a b:Int):[a,b].contains k=(k==a||k==b):=by show List.elem k _=_;simp only[List.elem];cases k==a<;>cases k==b<;>rfl
def xo(G)(a:Yy G)(b c d e f g m x)(r:EQ m.p x)(t:m.p.AE.length<1000000)(v:Int)(j:0<=v)(i:v<m.p.AN.length):Spec () G 209 [Vn b c d e f g m x,v] Zm (m.p.oneP v):=by
 refine Zo 0 25 _ func209 λX=>?_;rw[PM.oneP];refine Z ?_;intro y;refine Vb (λo=>o==7) [Vn b c d e f g m x,v,Za .new 1 (V.int .u8) (.mk ab [5,11])] [] ⟨Zd,Zd,?_,AJ⟩ trivial ?_;exact Xm (l:=[5,11]) rfl zp λ_=>rfl;refine Zc a ?_ (s:=T8 G a _ _ _ _ _ _ _ m _ v j i _ zd);rw[ABo];cases q:(m.p.kd v==5||m.p.kd v==11);refine Zg q ?_;intro k;refine Vb (λo=>o==12) [Vn b c d e f g m x,v,Za .new 1 (V.int .u8) (.mk ab [10])] [] ⟨Zd,Zd,?_,AJ⟩ trivial ?_;exact Xm (f:=V.int .u8) (l:=[10]) rfl zp λ_=>rfl;refine Zc a ?_ (s:=T8 G a _ _ _ _ _ _ _ m _ v j i _ zd);rw[KS];cases n:(m.p.kd v==10);refine Zg n ?_;rfl
 .refine Zg (zi n Tt) ?_;refine Ze a (λw h=>?_) (s:=D5 G a _ _ _ _ m.p (r.rc _) t v j i);obtain⟨s,u,rfl⟩:=h;refine Zg u ?_;rw[CH,DJ];refine BU V.bool ?_;rw[FW];simp
  try omega
 refine Zg q ?_;rfl
def pg(G)(a:Yy G)(b c d e f g m x)(r:EQ m.p x)(t:m.p.AE.length<1000000)(v:Int)(j:0<=v)(i:v<m.p.AN.length):Spec () G 109 [Vn b c d e f g m x,v] Zm (m.p.allP v):=by
 refine Zo 0 25 _ func109 λX=>?_;rw[PM.allP];refine Z ?_;intro y;refine Vb (λo=>o==7) [Vn b c d e f g m x,v,Za .new 1 (V.int .u8) (.mk ab [6])] [] ⟨Zd,Zd,?_,AJ⟩ trivial ?_;exact Xm (l:=[6]) rfl zp λ_=>rfl;refine Zc a ?_ (s:=T8 G a _ _ _ _ _ _ _ m _ v j i _ zd);rw[KS];cases q:(m.p.kd v==6);refine Zg q ?_;intro k;refine Vb (λo=>o==12) [Vn b c d e f g m x,v,Za .new 1 (V.int .u8) (.mk ab [10])] [] ⟨Zd,Zd,?_,AJ⟩ trivial ?_;exact Xm (f:=V.int .u8) (l:=[10]) rfl zp λ_=>rfl;refine Zc a ?_ (s:=T8 G a _ _ _ _ _ _ _ m _ v j i _ zd);rw[KS];cases n:(m.p.kd v==10);refine Zg n ?_;rfl
 .refine Zg (zi n Tt) ?_;refine Ze a (λw h=>?_) (s:=D5 G a _ _ _ _ m.p (r.rc _) t v j i);obtain⟨s,u,rfl⟩:=h;refine Zg u ?_;rw[CH,DJ];refine BU V.bool ?_;rw[FW];simp
  try omega
 refine Zg q ?_;rfl
def ZU(p:iS×Int):List V:=[qE (.mk ab p.1),qI p.2]
def fU(p v):ZU (p,v)=[qE (.mk ab p),v]:=rfl
def Iq{σ κ}(a)(s:σ)(k:κ):Y4 a s [k]=a s k:=by rw[Y4,Y4];generalize a s k=r;have⟨b,c⟩:=r;cases b<;>rfl
def Cb{σ κ}(c):∀ (a b:List κ) (s:σ),Y4 c s (a++b)=if(Y4 c s a).1=true then Y4 c (Y4 c s a).2 b else(ab,(Y4 c s a).2)
 |[],b,s=>rfl|k::r,b,s=>by rw[LG,Y4,Y4];cases q:(c s k).1;rfl;simp only[EN];exact Cb c r b _
def El{σ κ c d}:∀ {a b:List κ} {s:σ},Oo c d s (a++b)->Oo c d s a/\((Y4 d s a).1=true->Oo c d (Y4 d s a).2 b)
 |[],b,s,h=>⟨AJ,λ_=>h⟩|k::r,b,s,h=>by have⟨f,h2⟩:=h;refine⟨⟨f,λq=>(El (h2 q)).1⟩,λq=>?_⟩;rw[Y4]at q⊢;cases e:(d s k).1;rw[e]at q;simp at q;rw[e]at q;simp only[EN]at q⊢;exact(El (h2 e)).2 q
def Qx{E lo τ H B l m}(h:Nf (λ_=>ab) H τ l)(b:Vy H m)(d:Yi lo H=Yi lo B):Weak E ⟨τ,H⟩ (Hs.stM lo B l m):=by
 refine T4 _ (λt=>Fi t h) (λo=>?_);show FzO _ H o (Yb (Yi lo B) m o);rcases Vl o m (X5 b)with a|a;rw[a,<- d];rcases GG o lo with q|q;rw[W6 q];trivial
 .rw[V8 q];have:=DR (F:=λ_=>ab) (H:=H) (o:=o) rfl;cases c:H o with|mp=>trivial|_=>rw[c]at this;exact this
 rw[a];exact DR rfl
def vg{P lo}(F){G f a H K}(B args')(b:FzL F H a args')(e:Yi lo H=Yi lo B)(d:∀ o,lo<=o->F o=ab)(h:CallA P G f args' (Yi lo B) K):CallA P G f a H K:=
 I1 F b.get.1 b.get.2 (λo=>by
  rcases GG o lo with q|q;rw[W6 q];trivial
  .rw[<- e,V8 q];have:=DR (H:=H) (d o q);cases c:H o with|mp=>trivial|_=>rw[c]at this;exact this) h
def PM.walkG(m:PM)(f:Nat)(AP:iS)(t:Int):List (iS×Int):=if AP.contains t=true then[(AP++[t],-1)]else m.walkF f (m.tg t) (AP++[t])
def Hh(m:PM)(f v a):m.walkF (f+1) v a=if m.oneP v=true then(m.outI v).flatMap (m.walkG f a)else[(a,v)]:=rfl
def v_(G)(M:Yy G)(m x)(hx:EQ m.p x)(hw:m.p.AE.length<100000)(hr:∀ t:Int,0<=t->t<m.p.AE.length->0<=m.p.tg t/\m.p.tg t<m.p.AN.length):∀ f AP (v:Int) b c d e f' g H,0<=v->v<m.p.AN.length->AP.Nodup->(∀ t∈AP,0<=t/\t<m.p.AE.length)->m.p.AE.length+1-AP.length<=f ->
   QU ai G 100 172 (λy=>[Vn b c d e f' g m x,v,Za .new 1 (V.int .i64) (.mk ab AP),y]) H ZU (m.p.walkF f v AP) V.bool:=by
 intro N
 induction N with
 |zero=>intro AP v b c d e f' g H h0 h1 F E hf;have:=PM.nodup_len F E;omega|succ N ih=>
  intro AP v b c d e f' g H h0 h1 F E hf;have hpl:=PM.nodup_len F E;refine Uh _ 0 57 4 _ func172 λX t cl σ R dom C W hy K hR hP=>?_;refine BM (We (lo:=100) (l:=[(0,Vn b c d e f' g m x),(1,v),(2,Za .new 1 (V.int .i64) (.mk ab AP)),(3,.func t [] cl)]) (m:=[]) ⟨rfl,rfl,rfl,rfl,AJ⟩ trivial rfl) ?_;refine Z ?_;refine Zc M ?_ (s:=xo G M _ _ _ _ _ _ m _ (hx.rc _) zo v h0 h1);rw[Hh]at K⊢;cases q:m.p.oneP v;rw[q]at K;simp only[IP,HD]at K⊢;refine Xc q ?_;refine W7 rfl ?_;refine Zz (Vm [3] zk (by rfl) ?_);simp -implicitDefEqProofs only[go_sem,seval,I4];refine⟨_,rfl,Po hy W _ zp zm K.1 ?_ (λH2 h T=>?_) zk (n:=3) rfl zp⟩;refine Zs ?_;exact hR;refine Zs ?_;refine Z ?_;rw[Iq];exact⟨.inl rfl,h⟩
  .rw[q]at K;simp only[EN]at K⊢;refine Xc (zi q Tt) ?_;refine Xh rfl ?_;refine EP ?_;refine Xc Tt ?_;refine Zz (Wo zk ?_);refine Xc @Tt ?_;refine Ze M (λw hw'=>?_) (s:=D5 G M _ _ _ _ m.p (hx.rc _) zo v h0 h1);obtain⟨out,j,rfl⟩:=hw';have hol:aa out.l<=aa m.p.AE:=by rw[j];exact PM.wysI_len _ _ _
   have hor:∀ t∈out.l,0<=t/\t<aa m.p.AE:=λt D=>by rw[j]at D;exact(PM.mem_out.1 D).1
   rw[<- j]at K⊢
   try clear j
   refine Zs ?_;refine BK ?_;refine Wy (aa out.l) (λk  w=>Hs.stM 100 w.2 [(0,Vn b c d e f' g m x),(1,v),(2,Za .new 1 (V.int .i64) (.mk ab AP)),(3,.func t [] cl),(25,Za .new 1 (V.int .i64) out),(26,aa out.l),(27,k)] [])
    (λk w=>Oo dom C w.1 ((out.l.drop k).flatMap (m.p.walkG N AP))/\R w.1 (Yi 100 w.2)/\Y4 C W (out.l.flatMap (m.p.walkG N AP))=Y4 C w.1 ((out.l.drop k).flatMap (m.p.walkG N AP))) 0 (W,H) qz ⟨K,hR,rfl⟩
    (We ⟨rfl,rfl,rfl,rfl,zp,zp,zp,AJ⟩ trivial zp) ?_
   rintro k ⟨I,Hk⟩ hk ⟨A,Y,i⟩ L hL;simp only at A Y i;by_cases u:k<aa out.l;have P:=zU ((k:Int)<(aa out.l:Int));have hg:=AY u;have J:=BT u;rw[FL u,FY]at A i;generalize out.l[k]=z at hg J A i;obtain⟨O,KD⟩:=hor z J;refine Zf (j4 P hg u Ya) ?_;intro g33;refine vg (lo:=100) (λo=>o==33) Hk [Za .new 1 (V.int .i64) (.mk ab AP),Za .new 1 (V.int .i64) (.mk ab [z])] ⟨Zd,Xm (f:=V.int .i64) (l:=[z]) rfl zp (λ_=>rfl),AJ⟩ zp (λo ho=>zO) ?_;refine Zc M ?_ (s:=E6 G M _ _ _ _ (by show aa AP<_;omega) (by show(1:Nat)<_;omega) (by show aa AP+1≠0;omega));refine Zs ?_;refine BM (Qx (lo:=100) (B:=Hk) (l:=[(0,Vn b c d e f' g m x),(1,v),(2,Za .new 1 (V.int .i64) (.mk ab AP)),(3,.func t [] cl),(10,z),(11,Za .new 1 (V.int .i64) (.mk ab (AP++[z]))),(25,Za .new 1 (V.int .i64) out),(26,aa out.l),(27,k)]) (m:=[])
    (by refine Zs ?_;exact⟨Zd,Zd,Zd,Zd,Zd,Zd,Zd,Zd,Zd⟩) trivial zp) ?_
   refine Zz (Wo zk ?_);refine Zs ?_;refine Zc M ?_ (s:=Iv G M _ _ (.mk ab AP) (by show aa AP<_;omega));rw[PM.walkG]at A i;have w1:=wQ ((k:Int)+1);cases S:AP.contains z;rw[S]at A i;simp only[IP,HD]at A i;refine Xc S ?_;refine Xh rfl ?_;refine EP ?_;refine Zs ?_;obtain⟨n,y,rfl,hn,hgy,ey⟩:=m.wyAt O KD;have etg:m.p.tg (n:Int)=y.target:=by rw[PM.tg,ey]<;>rfl
   obtain⟨tg0,tg1⟩:=hr _ O KD;obtain⟨da,db⟩:=El A;refine Zz (Vm [12] zk (by rfl) ?_);simp -implicitDefEqProofs only[go_sem,seval,I4,hgy,hn,Tt,Z6,@DS,@GY];refine⟨_,rfl,E0 100 ql (ih (AP++[(n:Int)]) (m.p.tg n) b c d e f' g _ tg0 tg1 ?_ ?_ ?_) zk (λX' hle=>hy.at hle) I rfl ?_ da ?_ (λH2 h _=>?_) zk (n:=12) rfl zp (λ_ _ _=>trivial)⟩;rw[WG];refine⟨F,lh ..,λa ha b' hb e=>?_⟩;rw[CP]at hb;subst hb e;rw[HS.2 ha]at S;cases S;intro t D;rcases DX.1 D with D|D;exact E t D;rw[CP]at D;subst D;exact⟨O,KD⟩;rw[BQ];show _-(aa AP+1)<=_;omega;exact Vw (zi etg @Tt);refine Zs ?_;exact Y;refine Zs ?_;rw[Cb]at i;generalize Y4 C I (m.p.walkF N (m.p.tg (n:Int)) (AP++[(n:Int)]))=r at h db i⊢;obtain⟨bb,s2⟩:=r;cases bb;refine Z ?_;rw[i];exact⟨.inl rfl,h⟩;refine Zf w1 ?_;exact hL _ ⟨u,(s2,H2),⟨db rfl,h,i⟩,We ⟨rfl,rfl,rfl,rfl,zp,zp,zp,AJ⟩ trivial rfl⟩;rw[S]at A i;simp only[EN]at A i;refine Xc S ?_;refine W7 rfl ?_;refine Zz (Zz (Vm [2] zk (by rfl) ?_));simp -implicitDefEqProofs only[go_sem,seval,I4];refine⟨_,rfl,Po hy I (AP++[z],-1) zp zm A.1 ?_ (λH2 h T=>?_) zk (n:=2) rfl zp⟩;refine Zs ?_;exact Y;refine Zs ?_;have U:=A.2;have Q:Y4 C W (out.l.flatMap (m.p.walkG N AP))=if(C I (AP++[z],-1)).1=true then Y4 C (C I (AP++[z],-1)).2 ((out.l.drop (k+1)).flatMap (m.p.walkG N AP))else(ab,(C I (AP++[z],-1)).2):=i;generalize C I (AP++[z],-1)=r at h U Q⊢;obtain⟨bb,s2⟩:=r;cases bb;refine Z ?_;rw[Q];exact⟨.inl rfl,h⟩;refine Zf w1 ?_;exact hL _ ⟨u,(s2,H2),⟨U rfl,h,Q⟩,We ⟨rfl,rfl,rfl,rfl,zp,zp,zp,AJ⟩ trivial rfl⟩;have hke:k=aa out.l:=zo;have P:=zV ((k:Int)<(aa out.l:Int));rw[hke,NN]at i;refine Zf P ?_;refine Z ?_;rw[i];refine⟨.inl rfl,?_⟩;show R I _;refine Zs ?_;exact Y
def kU(G b c d e f g m x)(v:Int)(p):InSp ai G 107 [Vn b c d e f g m x,v,qE p] (Yb Zm [(63,.AR),(64,.AR),(65,.AR)])
  (λw H'=>∃ g3 g4 g5,w=.func (.func 171) [] [.ptr 63 g3 0,.ptr 64 g4 0,.ptr 65 g5 0]/\H' 63=qC g3 0 [Vn b c d e f g m x]/\H' 64=qC g4 0 [v]/\H' 65=qC g5 0 [qE p]):=by
 refine Wx 60 8 _ func107 rfl rfl rfl rfl λX=>?_;simp only[Yb];refine Z ?_;intro g3 g4 g5;refine Z ?_;exact⟨g3,g4,g5,rfl,zr,zr,zr⟩
def jh(G)(A:Yy G)(b c d e f g m x)(v:EQ m.p x)(w:m.p.AE.length<100000)(r:∀ t:Int,0<=t->t<m.p.AE.length->0<=m.p.tg t/\m.p.tg t<m.p.AN.length)(t)(t0:0<=t)(t1:t<m.p.AE.length)(g3 h a H)(E:H 63=qC g3 0 [Vn b c d e f g m x])(D:H 64=qC h 0 [(m.p.tg t)])(C:H 65=qC a 0 [Za .new 1 (V.int .i64) (.mk ab [t])]):MM ai G 100 171 [.ptr 63 g3 0,.ptr 64 h 0,.ptr 65 a 0] H ZU (m.p.waysL t):=by refine Uh _ 0 10 4 [] func171 λX ty cl σ R F J s u y z _=>?_;obtain⟨j,i⟩:=r _ t0 t1;refine BM (We (lo:=100) (l:=[(0,.func ty [] cl),(1,.ptr 63 g3 0),(2,.ptr 64 h 0),(3,.ptr 65 a 0)]) (m:=[(63,qC g3 0 [Vn b c d e f g m x]),(64,qC h 0 [(m.p.tg t)]),(65,qC a 0 [Za .new 1 (V.int .i64) (.mk ab [t])])]) ⟨rfl,rfl,rfl,rfl,AJ⟩ ⟨E,D,C,AJ⟩ rfl) ?_;refine Vm [4] zk (by rfl) ?_;simp -implicitDefEqProofs only[go_sem,seval,I4];refine⟨_,rfl,E0 _ ql (v_ G A m x v w r _ _ _ b c d e f g _ j i (lh ..) ?_ ql) zk (λK k=>u.at k) s rfl ?_ y ?_ (λL o _=>?_) zk (n:=4) rfl zp (λ_ _ _=>trivial)⟩;intro I q;rw[CP]at q;subst q;exact⟨t0,t1⟩;exact zp;refine Zs ?_;exact z;refine Z ?_;exact⟨_,rfl,.inr trivial,o⟩
section
variable{P:Program}
@[go_sem] def ADo(t t2 a v a2 v2 H A):UU P [(t,a,v)] t2 a2 v2 H A=((t2=t/\a2=a/\v2=v)/\W0 P H t a=ae v/\A):=by apply propext;constructor;rintro⟨⟨b,h2⟩,c⟩;have b:=CP.1 b;simp only[cY]at b;exact⟨b,h2 _ (CP.2 rfl),c⟩;rintro⟨⟨rfl,rfl,rfl⟩,h2,c⟩;refine⟨⟨CP.2 rfl,λp d=>?_⟩,c⟩;grind
