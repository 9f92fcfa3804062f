/- A part. No condition. -/
import Derived.Test.YtkennpiglkfalaaGreatDoorP45
import Derived.Shelf.Sort.Plain
import Derived.Shelf.Slices.In.SortNone
set_option linter.all false
open List renaming length->aa
open Bool renaming false->ab,true->ad
open Option renaming some->ae
open Go.Proofs.Tryz renaming prog->ai
open Go.Proofs.Tryz
open List renaming range->aE,take->bo
open Go.Value renaming int->bp
section
namespace Go.Hs
open Go.Proofs
set_option maxHeartbeats 2000000
set_option maxRecDepth 10000
def O1(q:iS):List V:=q.map ()
def Kf(q:iS):List V:=q.map λ_=>V.agg []
def d_(k:Int):∀ q,R3 (.int .i64) k (O1 q) (Kf q)=ae (if q.contains k=ad then ae (.agg [])else none)
 |[]=>rfl|a::q=>by show R3 _ k (qI a::O1 q) (.agg []::Kf q)=_;rw[R3,AF rfl];by_cases e:k=a;subst e;rw[AF rfl,AF zS];rw[AA e,d_ k q,JR,OG e,CH]
def kC{k}:∀ {q:iS},q.contains k=ab->Uk (.int .i64) k (O1 q)=ae none
 |[],_=>rfl|a::q,h=>by rw[JR,PY]at h;show Uk _ k (qI a::O1 q)=_;rw[Uk,AF rfl,AA (λe=>by rw[e]at h;simp at h),kC h.2];rfl
def rX{k}{q:iS}(h:q.contains k=ab):KN (.int .i64) k (.agg []) (O1 q) (Kf q)=ae (O1 (q++[k]),Kf (q++[k])):=by unfold KN;rw[kC h];simp only[O1,Kf,DL,BI,BV]
@[go_sem] def ADa:S3 ai 136 []=ae (.agg []):=zk
@[go_sem] def AEQ{a o b H k x K}:Rv ai a H 135 (.DF o b) k x K=Ao a b (.int .i64) (H o) k x λlo p=>K (.tuple []) (Ye H o (.mp lo b p.1 p.2)):=Ln underlying135 underlying3
def ABN(q)(k:Int):Kh ai 135 (.FM (O1 q) (Kf q)) k ad=ae (.tuple [.agg [],(q.contains k)]):=by unfold Kh;rw[underlying135];simp only[UP,underlying3,d_];cases q.contains k<;>rfl
def J1{E τ}{H B:A'}{l m}(h:Vy τ l)(g:Vy H m)(j:∀ o,(∀ p∈m,p.1≠o)->B o=.AR\/B o=H o):Weak E ⟨τ,H⟩ ⟨Yb Mv l,Yb B m⟩:=by
 refine T4 (λ_=>ab) (λt=>?_) (λo=>?_);rcases Vl t l (X5 h)with d|d;exact .inl d;refine .inr ?_;show Fz _ H _ (Yb Mv l t);rw[d];exact Zd;show FzO _ H o (Yb B m o);by_cases c:∃ p∈m,p.1=o;have:∀ (m),(∀ p∈m,H p.1=p.2)->(∃ p∈m,p.1=o)->Yb B m o=H o:=by
  intro m
  induction m with
  |nil=>rintro _ ⟨p,b,_⟩;cases b
  |cons p m ih=>intro i r;rw[Vc];by_cases e:o=p.1;subst e;rw[Ys,i p (GA ..)];rw[Zy _ _ e];have⟨n,a,k⟩:=r;rcases BY.1 a with rfl|a;exact absurd k.symm e;exact ih (λp b=>i p (FR _ b)) ⟨n,a,k⟩
 rw[this m (X5 g) c];exact DR rfl
 .have hno:=λp b e=>c ⟨p,b,e⟩;have:Yb B m o=B o:=by
   try clear j h g c
   induction m with|nil=>rfl|cons p m ih=>rw[Vc,Zy _ _ (FS (hno p (GA ..)))];exact ih λp b=>hno p (FR _ b)
  rw[this];rcases j o hno with q|q;rw[q];trivial;rw[q];exact DR rfl
def Ey(lost:Bool)(q es:iS):iS:=if lost=ad then q else Qw q es
def Tl(cs:iS)(off:Nat)(rest:iS):Prop:=off+aa rest<=aa cs/\(cs.drop off).take (aa rest)=rest
def Tl.zero(l):Tl l 0 l:=⟨zo,by rw[HB,B_]⟩
def Tl.next{cs off v r}(h:Tl cs off (v::r)):Tl cs (off+1) r:=by have⟨a,h2⟩:=h;rw[CW]at a h2;refine⟨zo,?_⟩;rw[FL zo,HC]at h2;exact(List.cons.inj h2).2
def Tl.nil{cs off r}(h:Tl cs off r):Tl cs off []:=⟨by have:=h.1;simp;omega,rfl⟩
def Tl.at{cs off v r}(h:Tl cs off (v::r)):cs[off]?=ae v:=by have⟨a,h2⟩:=h;rw[CW]at a h2;rw[FL zo,HC]at h2;rw[AY zo,(List.cons.inj h2).1]
structure AQ where
 new:iS
 cs:iS
 off:Nat
 go:Nat
def oh(b q):Ey b q []=q:=by unfold Ey;split<;>rfl
def pF(b q es):(Ey b q es).length<=q.length+es.length:=by
 unfold Ey;split;omega
 .induction es generalizing q with|nil=>exact BO _|cons e es ih=>rw[Mp];have:=ih (if q.contains e=ad then q else q++[e]);split at this;rename_i h;rw[AF h,CW];omega;rename_i h;rw[AA h];simp at this⊢;omega
def yB(b q es e):Ey b q (es++[e])=if b=ad then q else if(Ey b q es).contains e=ad then Ey b q es else Ey b q es++[e]:=by unfold Ey;cases b;simp only[IP,HD];rw[oK,Mp,ee];rfl
def i'(G)(hG:Yy G)(N p q cs rest off U C go b H)(hq:q.length<100000)(hT:Tl cs off rest)(hr:rest.length<100000)(he:p.1.AT.length<100000)(h6:H 6=qC U 0 [.DF 19 b])(h7:H 7=qC C 0 [.A_ 20 go off rest.length 1])(T:H 19=.mp N b (O1 q) (Kf q))(S:H 20=qC go 0 (cs.map (V.int .i64)))(hd:∀ o,100<=o->o<200->H o=.AR):V_ ai G N 53 [Sf .new p,.ptr 6 U 0,.ptr 7 C 0] H (λv H'=>v=.tuple []/\∃ w:AQ,q++w.new=Ey p.1.lost q (p.1.AT.map (·.1))/\Tl w.cs w.off (rest++w.new)/\H'=Yb H [(7,qC C 0 [.A_ 20 w.go w.off (rest.length+w.new.length) 1]),(19,.mp N b (O1 (q++w.new)) (Kf (q++w.new))),(20,qC w.go 0 (w.cs.map (V.int .i64)))]):=by
 refine w9 100 39 [] func53 λX=>?_;refine Zf Q3 ?_;intro W;have Y:Vf _ _=Za _ 2 (Uu .new) (Zb p.1.AT):=rfl;refine Zf (zi Q3 Y) ?_;refine Wy (aa p.1.AT) (λk (w:AQ)=>⟨Yb Mv [(1,.ptr 6 U 0),(2,.ptr 7 C 0),(3,.ptr 103 W 0),(9,Za .new 2 (Uu .new) (Zb p.1.AT)),(10,qI (aa p.1.AT)),(11,k)],Yb H [(7,qC C 0 [.A_ 20 w.go w.off (aa rest+aa w.new) 1]),(19,.mp N b (O1 (q++w.new)) (Kf (q++w.new))),(20,qC w.go 0 (w.cs.map (V.int .i64))),(103,qC W 0 [qE (Zb p.1.BN),qI p.1.first,qE (Zb p.1.DU),qE (Zb p.1.DE),Za .new 2 (Uu .new) (Zb p.1.AT),p.2])]⟩)
  (λk w=>q++w.new=Ey p.1.lost q ((p.1.AT.take k).map (·.1))/\Tl w.cs w.off (rest++w.new)) 0 ⟨[],cs,off,go⟩ qz ⟨by rw[HZ,BV,oh,DW],by rw[DW];exact hT⟩ (J1 zp ?_ λo n=>?_) ?_
 simp -implicitDefEqProofs only[go_sem,seval,h6,h7,T,S];have t:o≠103:=λe=>n (103,qC W 0 [qE (Zb p.1.BN),qI p.1.first,qE (Zb p.1.DU),qE (Zb p.1.DE),Za .new 2 (Uu .new) (Zb p.1.AT),p.2]) zS e.symm;exact .inr (Zy _ _ t).symm;rintro k ⟨new,D,of,gr⟩ hk ⟨r,i⟩ L R;simp only at r i;by_cases j:k<aa p.1.AT;have x:=zU ((k:Int)<(aa p.1.AT:Int));have Q:=AY j;generalize p.1.AT[k]=u at Q;have J:=j4 Ut h6 (ABN (q++new) u.1) Ya;refine Zf (j4 x Q j J) ?_;intro g5;refine Zf J ?_;intro g66;have M:(p.1.AT.take (k+1)).map (·.1)=(p.1.AT.take k).map (·.1)++[u.1]:=by rw[IZ,Q,DL]<;>rfl
 have g:=yB p.1.lost q ((p.1.AT.take k).map (·.1)) u.1;rw[<- M,<- r]at g;have P:=pF p.1.lost q ((p.1.AT.take k).map (·.1));rw[<- r,BQ,BC,CZ]at P;have hnw:aa new<200000:=zo;have K:=wQ ((k:Int)+1);have h:∀ (X:A'),(∀ o,o≠7->o≠19->o≠20->o≠103->o≠105->o≠106->o≠136->X o=H o)->∀ {a b c d:BL} o,(∀ p∈[(7,a),(19,b),(20,c),(103,d)],p.1≠o)->H o=.AR\/H o=X o:=λX hX a b c d o n=>by have A:=n (7,a) zS;have y:=n (19,b) zS;have t:=n (20,c) zS;have I:=n (103,d) zS;by_cases z1:100<=o/\o<200;exact .inl (hd o z1.1 z1.2);exact .inr (hX o (FS A) (FS y) (FS t) (FS I) zo zo zo).symm
 cases F:(q++new).contains u.1;refine Zf (zi F J) ?_;refine S5 [Sf .new (p.1,.top)] ⟨XP ⟨Zd,Zd,Zd,Zd,Zd,Fz.top _,AJ⟩,AJ⟩ ?_;refine Zc hG ?_ (ha:=by simp only[Q3,BI,BV,X9,Xr,Xv,XB];rfl) (s:=ln G hG .old (p.1,.top) (by show aa p.1.AT<_;omega));rw[F]at g;cases f:p.1.lost;rw[f]at g;refine Zf (j5 f (rX F) @Dm @BO J) ?_;intro g36;have O:=i.1;rw[BQ]at O;refine⟨Z3 zo zo,by rw[BC];omega,CB _,λg2=>?_⟩;have e1:((D.map (V.int .i64)).drop of).take ((aa rest+aa new)*1)=(rest++new).map (V.int .i64):=by rw[GV,<- BQ,<- List.map_drop,<- List.map_take,i.2]
 rw[e1,Nat.zero_sub];refine Zf K ?_;refine R _ ⟨j,⟨new++[u.1],rest++new++[u.1],0,g2⟩,⟨?_,(DH rest new [u.1]) ▸ Tl.zero _⟩,J1 zp ?_ (h _ λo A y t I n5 n6 n7=>?_)⟩;show q++(new++[u.1])=_;rw[f,g,DH]<;>rfl;simp -implicitDefEqProofs only[go_sem,seval,BQ,DH,DL];exact rfl
 (repeat rw[Zy _ _ (by assumption)])
 refine Zf (zi f K) ?_;rw[f]at r;refine R _ ⟨j,⟨new,D,of,gr⟩,⟨?_,i⟩,J1 zp zp (h _ λo A y t I n5 n6 n7=>?_)⟩;show q++new=_;rw[g,f];exact r
 (repeat rw[Zy _ _ (by assumption)])
 refine Zf (zi F K) ?_;rw[F]at g;refine R _ ⟨j,⟨new,D,of,gr⟩,⟨?_,i⟩,J1 zp zp (h _ λo A y t I n5 n6 n7=>?_)⟩;show q++new=_;rw[g];cases f:p.1.lost;rfl;rw[f]at r;exact r
 (repeat rw[Zy _ _ (by assumption)])
 have E:k=aa p.1.AT:=zo;have x:=zV ((aa p.1.AT:Int)<(aa p.1.AT:Int));rw[E,B_]at r;rw[E];refine BM (J1 (B:=H) (l:=[(10,qI (aa p.1.AT)),(11,qI (aa p.1.AT))]) (m:=[(7,qC C 0 [.A_ 20 gr of (aa rest+aa new) 1]),(19,.mp N b (O1 (q++new)) (Kf (q++new))),(20,qC gr 0 (D.map (V.int .i64)))]) zp zp λo n=>?_) ?_;by_cases z:o=103;subst z;exact .inl (hd 103 zd zd);have A:=n (7,_) (GA ..);have y:=n (19,_) (FR _ (GA ..));have t:=n (20,_) (FR _ (FR _ (GA ..)));right;simp only[Vc,YI,Ye,AA z,AA (FS A),AA (FS y),AA (FS t)];refine Zf x ?_;exact⟨_,rfl,rfl,⟨new,D,of,gr⟩,r,i,rfl⟩
end Go.Hs
namespace Go.Proofs
open Go.Shelf
def Ab:Go.Shelf.Ren:=⟨fun|189=>55|125=>115|257=>114|128=>186|129=>187|294=>177|295=>178|296=>179|297=>180|298=>181|299=>182|216=>183|300=>184|301=>185|328=>211|329=>212|330=>213|331=>214|332=>215|215=>216|343=>241|n=>n,fun|28=>45|3=>3|46=>169|0=>0|51=>216|53=>218|4=>4|183=>209|182=>208|131=>213|5=>5|9=>9|218=>248|222=>252|228=>280|229=>281|n=>n,fun|n=>n⟩
def Bs:Go.Proofs.Lays.n189 ai Ab:={
 mixed:=by kernel_rfl
 f125:=func115.trans (BU _ (by kernel_rfl))
 f128:=func186.trans (BU _ (by kernel_rfl))
 f129:=func187.trans (BU _ (by kernel_rfl))
 f189:=func55.trans (BU _ (by kernel_rfl))
 f215:=func216.trans (BU _ (by kernel_rfl))
 f216:=func183.trans (BU _ (by kernel_rfl))
 f257:=func114.trans (BU _ (by kernel_rfl))
 f294:=func177.trans (BU _ (by kernel_rfl))
 f295:=func178.trans (BU _ (by kernel_rfl))
 f296:=func179.trans (BU _ (by kernel_rfl))
 f297:=func180.trans (BU _ (by kernel_rfl))
 f298:=func181.trans (BU _ (by kernel_rfl))
 f299:=func182.trans (BU _ (by kernel_rfl))
 f300:=func184.trans (BU _ (by kernel_rfl))
 f301:=func185.trans (BU _ (by kernel_rfl))
 f328:=func211.trans (BU _ (by kernel_rfl))
 f329:=func212.trans (BU _ (by kernel_rfl))
 f330:=func213.trans (BU _ (by kernel_rfl))
 f331:=func214.trans (BU _ (by kernel_rfl))
 f332:=func215.trans (BU _ (by kernel_rfl))
 f343:=func241.trans (BU _ (by kernel_rfl))
 t0:=underlying0
 a0:=Tryz.isAgg0
 z0:=Tryz.sizeOf0
 v0:=Tryz.zeroValue0
 t3:=underlying3
 a3:=Tryz.isAgg3
 z3:=Tryz.sizeOf3
 v3:=Tryz.zeroValue3
 t4:=underlying4
 a4:=Tryz.isAgg4
 z4:=Tryz.sizeOf4
 v4:=Tryz.zeroValue4
 t5:=underlying5
 a5:=Tryz.isAgg5
 z5:=Tryz.sizeOf5
 v5:=Tryz.zeroValue5
 t9:=underlying9
 a9:=Tryz.isAgg9
 z9:=Tryz.sizeOf9
 v9:=Tryz.zeroValue9
 t28:=underlying45
 a28:=Tryz.isAgg45
 z28:=Tryz.sizeOf45
 v28:=Tryz.zeroValue45
 t46:=underlying169
 a46:=Tryz.isAgg169
 z46:=Tryz.sizeOf169
 v46:=Tryz.zeroValue169
 t51:=underlying216
 a51:=Tryz.isAgg216
 z51:=Tryz.sizeOf216
 v51:=Tryz.zeroValue216
 t53:=underlying218
 a53:=Tryz.isAgg218
 z53:=Tryz.sizeOf218
 v53:=Tryz.zeroValue218
 t131:=underlying213
 a131:=Tryz.isAgg213
 z131:=Tryz.sizeOf213
 v131:=Tryz.zeroValue213
 t182:=underlying208
 a182:=Tryz.isAgg208
 z182:=Tryz.sizeOf208
 v182:=Tryz.zeroValue208
 t183:=underlying209
 a183:=Tryz.isAgg209
 z183:=Tryz.sizeOf209
 v183:=Tryz.zeroValue209
 t218:=underlying248
 a218:=Tryz.isAgg248
 z218:=Tryz.sizeOf248
 v218:=Tryz.zeroValue248
 t222:=underlying252
 a222:=Tryz.isAgg252
 z222:=Tryz.sizeOf252
 v222:=Tryz.zeroValue252
 t228:=underlying280
 a228:=Tryz.isAgg280
 z228:=Tryz.sizeOf280
 v228:=Tryz.zeroValue280
 t229:=underlying281
 a229:=Tryz.isAgg281
 z229:=Tryz.sizeOf281
 v229:=Tryz.zeroValue281}
end Go.Proofs
namespace Go.Hs
open Go.Sort
section
variable{X:Cx}{H:A'}
def vE(u:BZ X H){o g}{l f:iS}(s:H o=qC g 0 (l.map ()))(M:f.length=l.length){b c}(r:X.β o g=ae (b,c))(n os):∃ Y,Y.w=grow (putRow (bp .i64) (Sort.ahead X.w n) b c f.toArray) os/\BH X H Y (Ye H o (qC g 0 (f.map ()))):=by
 have B:=P' u (X.w.drawn+n);have⟨Q,J,y,h2,c1,t,v,F,P⟩:=u.DQ o _ g 0 _ s;rw[r]at y;cases y;rw[BC]at F;let d:={X with w:=Sort.ahead X.w n};let a:=putCells (bp .i64) c f.toArray c1;have m:a.size=c1.size:=by simp[a,putCells]
 have A:=Gt B.BJ s r v a m (λi N=>by
  simp only[a,putCells,Array.getElem?_mapIdx];rcases O:c1[i]? with _|x;rfl;grind) _ (.inl rfl) g c 0 (f.map ()) (.inl ⟨rfl,rfl⟩) ql zG (by
  rw[BC];have e:(a.toList.drop c).take (aa f)=f.map (bp .i64):=by apply List.ext_getElem?;intro j;by_cases E:j<aa f;have p:c+j<c1.size:=zo;simp[a,putCells,E,p];grind
  rw[e];refine⟨zS,λx C=>?_,λi L K=>?_⟩;obtain⟨z,_,rfl⟩:=CY.1 C;rfl;simp only[FG];exact .int _ _)
 have q:=B.trans A;have I:(d.add o g b c (d.w.setRow b a)).w=putRow (bp .i64) (Sort.ahead X.w n) b c f.toArray:=by show d.w.setRow b a=_;unfold putRow mapBlock World.setRow;congr 1;apply Array.ext_getElem?;intro i;simp only[lN];split;rename_i h;subst h;rw[show(Sort.ahead X.w n).heap[b]?=ae (Obj.cells c1 t (0,0))from v];rfl;rfl
 have G:=BH.below (X:=d.add o g b c (d.w.setRow b a)) A.BJ (w':=grow (d.add o g b c (d.w.setRow b a)).w os) (by refine⟨rfl,rfl,rfl,by simp[grow],λk D=>?_⟩;show((d.add o g b c (d.w.setRow b a)).w.heap++os)[k]?=_;rw[Array.getElem?_append_left D])
 exact⟨_,by rw[<- I],q.trans G⟩
end
open Go.Proofs Go.Sort
set_option maxRecDepth 10000
def oB{G o g l}{H:A'}{K}(S:l.length<1000000)(m:H o=Z9 g (V.int .i64) l)(h:K (.tuple []) (Ye H o (Z9 g (V.int .i64) (KX l)))):CallA ai G 55 [AZ o g 1 l] H K:=by
 refine⟨zk,λX z u _ M=>?_⟩;obtain⟨x,rfl,q⟩:=M.one;rcases l with _|⟨a,r⟩;cases q;refine(show Calls _ 55 _ _ _ from Any.slices_Sort_int_none Bs _ 0 _).mono ?_;rintro e w' ⟨rfl,rfl⟩;have P:Ye H o (Z9 g (V.int .i64) (KX []))=H:=by rw[show KX []=[]from by simp[KX]];exact Xf H _ _ m
 rw[P]at h;exact⟨_,.tuple [],H,X,rfl,rfl,GF u,.tuple _ [] rfl (λi p h2=>by simp at h2),h⟩;have s:Z9 g (V.int .i64) (a::r)=.cells .new g 0 ((a::r).map (V.int .i64)):=by show BL.cells _ g 0 _=_;congr 1;exact Ce _
 rw[s]at m;generalize I:a::r=L at *;have f:L≠[]:=by rw[<- I];simp
 rw[Xs _ _ _ f]at q;cases q with|A_ _ _ _ _ _ b bs cap hβ hcap hb=>
 obtain⟨T,R,p,h2,Q,t,y,O,v⟩:=u.DQ o _ g 0 _ m;rw[hβ]at p;cases p;rw[BC]at O v;have J:Holds (bp .i64) X.w b bs L.toArray:=by
  intro j d;have d:=zu d;have c:=v.len;have B:=v.CV j (by rw[c,BC];exact d) (by rw[BC];exact d);rw[FG]at B;refine⟨?_,by simp[World.frozen?,y]⟩;have N:=B.int_inv;have A:((Q.toList.drop bs).take (aa L))[j]?=ae (.int .i64 L[j]):=by rw[AY (by rw[c,BC];exact d),N]
  rw[QH d,QG,PU]at A;simp[World.cell?,y,A,d]
 have k:=(DB.1 y).1;refine(show Calls ai 55 _ _ _ from Any.slices_Sort_int Bs b bs cap L X.w J k zo).mono ?_;rintro e w' ⟨rfl,n,C,rfl⟩;obtain⟨Y,D,F⟩:=vE u m (X_ L) hβ n C;have E:Z9 g (V.int .i64) (KX L)=.cells .new g 0 ((KX L).map (V.int .i64)):=by rw[X2 _ _ (by intro e;have:=X_ L;rw[e]at this;exact f (GL.1 this.symm))];congr 1;exact Ce _
 rw[E]at h;exact⟨_,.tuple [],_,Y,rfl,D,F,.tuple #[] [] rfl (λi p h2=>by simp at h2),h⟩
section
def Ht:BB:=⟨[],0,[],[],[]⟩
def JK(L:List BB)(v:Int)(k:Nat):List Nat:=(aE k).filter λi=>(L.getD i Ht).BN.contains v
def AAq(L v k):JK L v (k+1)=JK L v k++(if(L.getD k Ht).BN.contains v=ad then[k]else[]):=by unfold JK;rw[HW,HH];grind
def ACB{L v k i}(h:i∈JK L v k):i<k:=DC.1 (IY.1 h).1
def ji{σ:Type}(L v F):∀ k (q:σ),k<=L.length->(JK L v k).foldl (λq i=>F q (L.getD i Ht)) q=((L.take k).filter λs=>s.BN.contains v).foldl F q
 |0,q,_=>rfl|k+1,q,h=>by have a:=AY (show k<aa L by omega);have b:L.getD k Ht=L[k]'(by omega):=zG;rw[AAq,KI,ji L v F k q (by omega),IZ,a,HH,KI,b];grind
namespace PM
variable{m:PM}
def stepQ(m:PM)(L:List BB)(v:Int)(q:iS)(l:List Nat):iS:=if m.kd v=4 then l.foldl (λq i=>Qw q (L.getD i Ht).BD) q else q
def stepQ_all(L v q):m.stepQ L v q (JK L v L.length)=m.nextQ L q v:=by unfold stepQ nextQ;split;rw[ji L v (λq s=>Qw q s.BD) _ q ql,B_];rfl
def Cc(L:List BB):∀ (l:List Nat) q,∃ t,l.foldl (λq i=>Qw q (L.getD i Ht).BD) q=q++t
 |[],q=>⟨[],(DW q).symm⟩|i::l,q=>by have⟨t,b⟩:=XR (L.getD i Ht).BD q;have⟨u,a⟩:=Cc L l (Qw q (L.getD i Ht).BD);grind
def stepQ_pre(L v q l):∃ t,m.stepQ L v q l=q++t:=by unfold stepQ;split;exact Cc L l q;simp_all
def stepQ_snoc(L v q l i):m.stepQ L v q (l++[i])=if m.kd v=4 then Qw (m.stepQ L v q l) (L.getD i Ht).BD else m.stepQ L v q l:=by unfold stepQ;grind
def stepQ_len(L v q l){j}:(m.stepQ L v q (l.take j)).length<=(m.stepQ L v q l).length:=by unfold stepQ;split;have⟨t,a⟩:=Cc L (l.drop j) ((l.take j).foldl (λq i=>Qw q (L.getD i Ht).BD) q);rw[<- KI,HX]at a;grind;grind
end PM
end
open Go.Proofs
set_option maxHeartbeats 4000000
set_option maxRecDepth 10000
def lv(L:List BB)(rv:Nat->V):List (BB×V):=(aE (aa L)).map λj=>(L.getD j Ht,rv j)
def Km(L:List BB)(rv:Nat->V):List V:=flat ((lv L rv).map (Sf .new))
def QX(L rv):(lv L rv).length=L.length:=by rw[lv,BC,HV]
def G8(c q):(Sf c q).cells.length=6:=rfl
def O8(L rv):(Km L rv).length=L.length*6:=by rw[Km,Ww (G8 _),QX]
def UQ{L rv i}(h:i<L.length):(lv L rv)[i]?=ae (L.getD i Ht,rv i):=by rw[lv,ED,cH h]<;>rfl
def jU{L rv i}(h:i<L.length):((Km L rv).drop (i*6)).take 6=(Sf .new (L.getD i Ht,rv i)).cells:=by have:=dX (f:=Sf .new) (G8 _) (lv L rv) (off:=i) (n:=1) (by rw[QX];omega);rw[Km];rw[Nat.one_mul]at this;rw[this,List.take_one,List.head?_drop,UQ h];show flat _=_;simp[flat]
def eX{L rv i}(h:i<L.length):(Km L rv)[i*6+5]?=ae (rv i):=As (G8 _) zd (UQ h) rfl
def l_{L rv i}(h:i<L.length)(u):(Km L rv).set (i*6+5) u=Km L (Ye rv i u):=by rw[Km,X4 (G8 _) zd (y:=(L.getD i Ht,u)) (UQ h) rfl,Km];congr 2;apply QD;simp[lv];intro j a h2;rw[JT];simp only[lv,FG,LI,Ye];by_cases e:i=j;subst e;simp;rw[AA e,AA (FS e)]
def AAl{L rv rv'}(h:∀ j,j<L.length->rv j=rv' j):Km L rv=Km L rv':=by unfold Km lv;rw[FQ (g:=λj=>(L.getD j Ht,rv' j)) λj a=>by rw[h j (DC.1 a)]]
def AAZ(L rv v):To (lv L rv) v (lv L rv).length=(JK L v L.length).map fun(i:Nat)=>(i:Int):=by unfold To JK;rw[QX];congr 1;refine TH λi a=>?_;rw[UQ (DC.1 a)]
def RdL.app{H}:∀ {a b c d},RdL H a b->RdL H c d->RdL H (a++c) (b++d)
 |[],[],_,_,_,h=>h|[],_::_,_,_,h,_=>h.elim|_::_,[],_,_,h,_=>h.elim|_::_,_::_,_,_,h,k=>⟨h.1,RdL.app h.2 k⟩
def ix(c l):(Vf c l).Im:=V1 (λx y a=>by rw[Ut]at a;simp only[V.cells,BY,CL,CF]at a;rcases a with rfl|rfl;exact .int _ _;exact Q5 _) _
def fb{H}{L:List BB}{rv rv':Nat->V}:∀ {js:List Nat},(∀ j∈js,Rd H (rv j) (rv' j))->RdL H (flat ((js.map λj=>(L.getD j Ht,rv j)).map (Sf .new))) (flat ((js.map λj=>(L.getD j Ht,rv' j)).map (Sf .old)))
 |[],_=>trivial
 |j::js,h=>RdL.app
   ⟨Xg (Q5 _) (Xv ..),Xg (.int _ _) rfl,Xg (Q5 _) (Xv ..),Xg (Q5 _) (Xv ..),Xg (ix _ _) (XB _ _ _),h j (GA ..),AJ⟩
   (fb λj c=>h j (FR _ c))
def Rd.lv{H L rv rv' c o a fz}(e:H o=.cells c a fz (Km L rv))(h:∀ j,j<L.length->Rd H (rv j) (rv' j)):Rd H (.A_ o a 0 L.length 6) (.slice .old ab 6 ((lv L rv').map (Sf .old))):=by refine Cv.A_ o a 0 _ 6 c fz _ _ rfl e (by rw[BC,QX]) (λv b=>?_) (by rw[O8];omega) λi f h2=>?_;obtain⟨x,_,rfl⟩:=CY.1 b;exact G8 _ x;have:=(fb λj d=>h j (DC.1 d)).get.2 i (by have:=f;rw[EE]at this;exact this) h2;simp only[EE];exact this
def jH(s:BB)(q):Ey s.lost q (s.AT.map (·.1))=Qw q s.BD:=by rw[Ey,BB.BD];split<;>rfl
def gJ{F H L rv rv' o a}(c:H o=qC a 0 (Km L rv))(d:F o=ab)(h:∀ j,j<L.length->Fz F H (rv j) (rv' j)):FzO F H o (qC a 0 (Km L rv')):=by
 refine⟨.new,0,Km L rv,c,.inl rfl,BO _,λe=>(by rw[d]at e;cases e),by rw[O8,O8],?_⟩;have:FzL F H (Km L rv) (Km L rv'):=by unfold Km Hs.lv;rw[EL,EL];refine FzL.flat λj b=>?_;exact⟨Zd,Zd,Zd,Zd,Zd,h j (DC.1 b),AJ⟩
 exact this.get.2
def vL{α}(o g m){l c:List α}(h:l.length=c.length):AZ o g m l=AZ o g m c:=by
 cases l with
 |nil=>obtain rfl:c=[]:=GL.1 h.symm;rfl
 |cons a r=>cases c with|nil=>cases h|cons b t=>show V.A_ .. = V.A_ ..;rw[h]
structure RQ where
 q:iS
 i:Nat
 cs:iS
 off:Nat
 go:Nat
 gr:Nat
def Kn(m:PM)(L:List BB)(i j:Nat):V:=if j<i then qE (Zb (m.reachL L (L.getD j Ht)))else .AG
def AAg(G)(hG:Yy G)(c1 c2 c3 c4 c5 c6 m x)(hx:EQ m.p x)(L)(hne:L≠[])(hl:L.length<100000)(hnv:m.p.AN.length<100000)(he:∀ s∈L,s.AT.length<100000)(hso:∀ s∈L,s.BN.length<100000)(E:∀ s∈L,m.p.AtOk s)(K):InSp ai G 22 [Vn c1 c2 c3 c4 c5 c6 m x,.A_ 3000 K 0 L.length 6] (Yb Zm [(3000,qC K 0 (Km L (Kn m.p L 0)))]) (λ_ H'=>H' 3000=qC K 0 (Km L (Kn m.p L L.length))):=by
 refine Wx 0 71 [] func22 rfl rfl rfl rfl λX=>?_;refine Z ?_;refine Z8 [0,1,12,13] [] (aa L) (λi (_:Unit)=>[(14,i)]) (λi _=>[(3000,qC K 0 (Km L (Kn m.p L i)))]) (λ_ _=>True) 0 () qz trivial zp zp ?_;intro i _ hi _ L1 hL1;by_cases d:i<aa L;have R:=zU ((i:Int)<(aa L:Int));have t:L.getD i Ht∈L:=by rw[DK,AY d];exact BT d
 have hsg:=jU (rv:=Kn m.p L i) d;have hrv:Kn m.p L i i=.AG:=AA (LM _);rw[hrv]at hsg;have k6:i*6+6<=aa L*6:=zo;have M:i*6<aa L*6:=zo;have fs:=j7 d hsg O8 k6 M Q3 Ya;refine Ym (zi R fs) ?_;refine Ym (zi R fs) ?_;intro g5;refine Ym fs ?_;intro b g6;refine Ym fs ?_;intro go g7;refine Ym fs ?_;generalize hs:L.getD i Ht=s at *;have hes:=he s t;have hss:=hso s t;refine NF [0,1,4,5,7,8,12,13,14] [5,6,7,19,20,3000] ?_;refine Zz (Zz (Vm [2] zk (by rfl) ?_));simp -implicitDefEqProofs only[go_sem,seval,I4,Q3];refine⟨_,rfl,ic (i' G hG X.w.heap.size (s,.AG) [] [] [] 0 g6 g7 go b _ zd (Tl.zero _) zd hes zp zp zp zp (λo h1 h2=>?_)) zp zp (λv H' hk=>?_) zk (k:=2) rfl zp⟩;dsimp only
 (repeat rw[Zy _ _ zo])
 rfl;obtain⟨rfl,w,P,O,rfl⟩:=hk;obtain⟨q0,cs0,of0,go0⟩:=w;have hq0:q0=Qw [] s.BD:=by have:q0=Ey s.lost [] (s.AT.map (·.1)):=P;rw[this,jH]
 have hQ0:m.p.IT L s q0 0:=hq0 ▸ PM.IT.zero (E s t);refine BK ?_;refine Xw [0,1,4,5,7,8,12,13,14] [5,6] (λz:RQ=>[]) (λz=>[(7,qC g7 0 [.A_ 20 z.go z.off (aa z.q-z.i) 1]),(19,.mp X.w.heap.size b (O1 z.q) (Kf z.q)),(20,qC z.go 0 (z.cs.map (V.int .i64))),(42,Z9 z.gr (V.int .i64) (z.q.take z.i)),(3000,qC K 0 (Km L (Ye (Kn m.p L i) i (AZ 42 z.gr 1 (z.q.take z.i)))))]) (λz=>m.p.IT L s z.q z.i/\Tl z.cs z.off (z.q.drop z.i)) (λz=>aa m.p.AN-z.i) ⟨q0,0,cs0,of0,go0,0⟩ ⟨hQ0,O⟩ zp ?_ ?_;dsimp only;have e1:Ye (Kn m.p L i) i .AG=Kn m.p L i:=Xf _ _ _ hrv;simp -implicitDefEqProofs only[go_sem,seval,IS,Qo,U1,e1];rintro⟨q,a,cs,of,gq,gr⟩ ⟨hQ,hT⟩ L2 hL2;simp only at hQ hT;have hql:=hQ.len;have hii:=hQ.le;by_cases hlq:a<aa q;have I:=zU (((aa q-a:Nat):Int)>0);have hv:=AY hlq;have hvm:=BT hlq;generalize q[a]=v at hv hvm;have hdr:q.drop a=v::q.drop (a+1):=by have h1:=DG.1 hv;rw[<- h1.2];exact FL hlq
 rw[hdr]at hT;have hcell:(cs.map (V.int .i64))[of]?=ae (qI v):=by rw[ED,hT.at]<;>rfl
 have hcl:aa (cs.map (V.int .i64))=aa cs:=BC ..;have hT1:=hT.1;rw[CW,EJ]at hT1;have c1':0<aa q-a:=zo;have c2':of+1<=aa cs:=zo;have c3':1<=aa q-a:=zo;have i1:(0:Int)<((aa q-a:Nat):Int):=zo;have i2:(1:Int)<=((aa q-a:Nat):Int):=zo;have f8:=j8 i1 i2 hcell hcl c1' c2' c3' Ya;refine Ym (zi I f8) ?_;refine Ym (zi I f8) ?_;have e7:aa q-a=(aa q-(a+1))+1:=zo;have hin:aa (bo a q)=a:=by rw[CZ];omega
 have htk:q.take a++[v]=q.take (a+1):=by rw[IZ,hv]<;>rfl
 generalize hrest:aa q-(a+1)=nr at *;rw[e7];refine Zz (Vm [1] zk (by rfl) ?_);simp -implicitDefEqProofs only[go_sem,seval,I4];refine⟨_,rfl,mw (e:=3) (len:=nr) (ob:=20) (off:=of) zk zk zp rfl (λof' hof=>?_) zk (n:=1) rfl (by rfl)⟩;have hT':Tl cs of' (q.drop (a+1)):=by rcases hof with h|⟨h,h'⟩;rw[h];exact hT.next;have:q.drop (a+1)=[]:=GL.1 (by rw[EJ];omega);rw[this,h'];exact hT.nil
 simp -implicitDefEqProofs only[go_sem,seval,I4];have S:(Km L (Ye (Kn m.p L i) i (AZ 42 gr 1 (q.take a))))[i*6+5]?=ae (AZ 42 gr 1 (q.take a)):=by rw[eX d,Ys]
 have hst:∀ u,(Km L (Ye (Kn m.p L i) i (AZ 42 gr 1 (q.take a)))).set (i*6+5) u=Km L (Ye (Kn m.p L i) i u):=λu=>by rw[l_ d];refine AAl λj _=>?_;simp only[Ye];split<;>rfl
 have f10:=j7 d S hst O8 k6 M Ya;refine Ym f10 ?_;intro g41;refine Yg (f:=V.int .i64) (l:=q.take a) (l2:=[v]) BE rfl rfl rfl zp (Z3 zo zO) λg2=>?_;rw[htk];have f10b:=j7 d S hst O8 k6 M Ya;refine Xc f10b ?_;subst hrest;refine NF [0,1,4,5,7,8,12,13,14,9] [5,6,7,19,20,42,3000] ?_;refine Ym f10 ?_;have hqi:a+1<=aa q:=zo;refine Gu hG [.slice .old ab 6 ((lv L (Ye (λj=>(Kn m.p L i j).recol AH.ent) i (Za .old 1 (V.int .i64) (Zb (q.take (a+1)))))).map (Sf .old)),v] zk ⟨Rd.lv (rv:=Ye (Kn m.p L i) i (AZ 42 g2 1 (q.take (a+1)))) zp (λj _=>?_),Xg (.int _ _) rfl,AJ⟩ ?_;by_cases e:j=i;subst e;rw[Ys,Ys];exact Ez (f:=V.int .i64) (f':=V.int .i64) zp BE (λx y N=>by simp[V.cells]at N;subst N;exact .int _ _) λ_=>rfl;rw[Zy _ _ e,Zy _ _ e];unfold Kn;split;exact Xg (Q5 _) rfl;exact Xg .AG rfl;refine(D7 G hG .old .old (.mk ab (lv L (Ye (λj=>(Kn m.p L i j).recol AH.ent) i (Za .old 1 (V.int .i64) (Zb (q.take (a+1))))))) v (by show aa (lv L _)<_;rw[QX];exact hl) (λy N=>by have N:y∈lv L _:=N;obtain⟨j,H,rfl⟩:=CY.1 N;refine hso _ ?_;show L.getD j Ht∈L;rw[DK,AY (DC.1 H)];exact BT (DC.1 H))).mono λw _ hw=>?_
 have hw:w=qE (Zb (To (lv L _) v (aa (lv L _)))):=hw;rw[AAZ]at hw;subst hw;refine⟨UI (λx y N=>by simp[V.cells]at N;subst N;exact .int _ _) _,?_⟩;have hF:∀ j∈JK L v (aa L),j<aa L:=λj H=>ACB H;have B:=PM.stepQ_all (m:=m.p) L v q;have hsl:=λk=>PM.stepQ_len (m:=m.p) L v q (JK L v (aa L)) (j:=k);have hFl:aa (JK L v (aa L))<=aa L:=CT (IJ _ _) (by rw[HV];exact BO _);generalize JK L v (aa L)=F at hF B hsl hFl;have hQ':=hQ.next E hv;rw[<- B]at hQ';have hF':aa (F.map fun(i:Nat)=>(i:Int))=aa F:=BC ..;refine Xc hF' ?_;refine BK ?_;refine Z8 [0,1,4,5,7,8,12,13,14,9,47,48] [5,6] (aa F) (λk (z:RQ)=>[(49,k)]) (λk z=>[(7,qC g7 0 [.A_ 20 z.go z.off (aa z.q-z.i) 1]),(19,.mp X.w.heap.size b (O1 z.q) (Kf z.q)),(20,qC z.go 0 (z.cs.map (V.int .i64))),(42,Z9 z.gr (V.int .i64) (z.q.take z.i)),(3000,qC K 0 (Km L (Ye (Kn m.p L i) i (AZ 42 z.gr 1 (z.q.take z.i)))))]) (λk z=>z.q=m.p.stepQ L v q (F.take k)/\z.i=a+1/\Tl z.cs z.off (z.q.drop (a+1))) 0 ⟨q,a+1,cs,of',gq,g2⟩ qz ⟨?_,rfl,hT'⟩ zp zp ?_;show q=_;rw[HZ];unfold PM.stepQ;split<;>rfl;rintro k ⟨r,i3,cs3,W,go3,J⟩ hk ⟨C,hi3,T⟩ L3 hL3;simp only at C hi3 T;subst hi3;have hl3:aa r<100000:=by have:=hsl k;have:=hQ'.len;rw[C];omega
 obtain⟨t3,Y⟩:=PM.stepQ_pre (m:=m.p) L v q (F.take k);rw[<- C]at Y;have hp3:r.take (a+1)=q.take (a+1):=by rw[Y,NR hqi]
 by_cases D:k<aa F;have A:=zU ((k:Int)<(aa F:Int));have hgk:=AY D;have hjm:=BT D;generalize F[k]=j at hgk hjm;have H:=hF j hjm;have hgk':(F.map fun(i:Nat)=>(i:Int))[k]?=ae (j:Int):=by rw[ED,hgk]<;>rfl
 have w1:=wQ ((k:Int)+1);have hkl:k<aa (F.map fun(i:Nat)=>(i:Int)):=by rw[hF'];exact D
 have f12:=j5 hgk' D hkl hF' Ya;refine Ym (zi A f12) ?_;refine Ym (zi A f12) ?_;refine Ym f12 ?_;intro g55;obtain⟨v0,v1⟩:=hQ.DA v hvm;refine W5 55 [Vn c1 c2 c3 c4 c5 c6 m x,v,Za .new 1 (V.int .u8) (.mk ab [4])] ⟨Zd,Zd,Xm (f:=V.int .u8) (l:=[4]) rfl zp BE,AJ⟩ ?_;refine Zc hG ?_ (s:=T8 G hG _ _ _ _ _ _ _ m _ v v0 v1 _ zd);rw[KS];have Q:m.p.stepQ L v q (F.take (k+1))=if m.p.kd v=4 then Qw r (L.getD j Ht).BD else r:=by rw[IZ,hgk];show m.p.stepQ L v q (F.take k++[j])=_;rw[PM.stepQ_snoc,<- C]
 have U:a+1<=aa r:=by rw[Y,BQ];omega
 cases qk:(m.p.kd v==4);have hkd:¬m.p.kd v=4:=λe=>by rw[e]at qk;cases qk
 rw[AA hkd]at Q;refine Zf (zi qk w1) ?_;exact hL3 _ ⟨D,⟨r,a+1,cs3,W,go3,J⟩,⟨Q.symm,rfl,T⟩,AO zp zp⟩;have hkd:m.p.kd v=4:=zu qk;rw[AF hkd]at Q;refine Zi (b:=ad) zp (λ_=>?_) (λh=>by cases h);refine NF [0,1,4,5,7,8,12,13,14,9,47,48,11,49] [5,6,7,19,20,42,3000] ?_;have hmj:L.getD j Ht∈L:=by rw[DK,AY H];exact BT H
 have hsj:=jU (rv:=Ye (Kn m.p L i) i (AZ 42 J 1 (r.take (a+1)))) H;have hdl:aa (r.drop (a+1))=aa r-(a+1):=EJ ..;have k7:j*6+6<=aa L*6:=zo;have k7':j*6<aa L*6:=zo;refine Vm [5] zk (by rfl) ?_;simp -implicitDefEqProofs only[go_sem,seval,I4,H,hsj,O8,k7,k7',Q3,GY];refine⟨_,rfl,ic (i' G hG X.w.heap.size (L.getD j Ht,Ye (Kn m.p L i) i (AZ 42 J 1 (r.take (a+1))) j) r cs3 (r.drop (a+1)) W g6 g7 go3 b _ hl3 T (by rw[hdl];omega) (he _ hmj) zp (by rw[hdl];exact zp) zp zp (λo h1 h2=>?_)) zp zp (λv H' hk=>?_) zk (k:=5) rfl zp⟩;dsimp only
 (repeat rw[Zy _ _ zo])
 rfl;obtain⟨rfl,w,P,O,rfl⟩:=hk;obtain⟨new,cs4,of4,go4⟩:=w;simp only at P O;have hp4:(r++new).take (a+1)=r.take (a+1):=NR U;refine Zf w1 ?_;refine hL3 _ ⟨D,⟨r++new,a+1,cs4,of4,go4,J⟩,⟨?_,rfl,?_⟩,AO zp ?_⟩;show r++new=_;rw[P,Q,jH];show Tl cs4 of4 ((r++new).drop (a+1));rw[b9 U];exact O;dsimp only;rw[hp4];have hle:aa r-(a+1)+aa new=aa r+aa new-(a+1):=zo;simp -implicitDefEqProofs only[go_sem,seval,hdl,BQ,hle];have hke:k=aa F:=zo;rw[hke,B_,B]at C;have A:=zV ((aa F:Int)<(aa F:Int));rw[hke];refine Zf A ?_;refine hL2 _ ⟨⟨r,a+1,cs3,W,go3,J⟩,?_,⟨?_,T⟩,AO zp zp⟩;show aa m.p.AN-(a+1)<aa m.p.AN-a;omega;show m.p.IT L s r (a+1);rw[C,<- B];exact hQ';have hie:a=aa q:=zo;rw[hie]at hQ⊢;have hE:=hQ.CK;have I:decide (((aa q-aa q:Nat):Int)>0)=ab:=by rw[TQ]<;>rfl
 have S:(Km L (Ye (Kn m.p L i) i (AZ 42 gr 1 q)))[i*6+5]?=ae (AZ 42 gr 1 q):=by rw[eX d,Ys]
 refine BM (AO (l:=[(0,Vn c1 c2 c3 c4 c5 c6 m x),(1,.A_ 3000 K 0 (aa L) 6),(4,i),(5,.ptr 5 g5 0),(7,.ptr 7 g7 0),(8,.func (.func 53) [] [.ptr 6 g6 0,.ptr 7 g7 0]),(12,.A_ 3000 K 0 (aa L) 6),(13,aa L),(14,i)]) (m:=[(7,qC g7 0 [.A_ 20 gq of (aa q-aa q) 1]),(42,Z9 gr (V.int .i64) q),(3000,qC K 0 (Km L (Ye (Kn m.p L i) i (AZ 42 gr 1 q))))]) zp (by simp -implicitDefEqProofs only[go_sem,seval,B_])) ?_;have f17:=j6 d S O8 k6 M Ya;refine Ym (zi I f17) ?_;refine Ym (zi I f17) ?_;refine oB (l:=q) zo zp ?_;have hrl:aa q=aa (m.p.reachL L s):=by rw[<- PM.reach_sort E (E s t) hE,X_]
 rw[PM.reach_sort E (E s t) hE];have w1:=wQ ((i:Int)+1);refine Zs ?_;refine Y2 (λo=>o==42) [0,1,12,13,14] [] (l:=[]) (m:=[(3000,qC K 0 (Km L (Ye (Kn m.p L i) i (qE (Zb (m.p.reachL L s))))))]) trivial ⟨gJ (rv:=Ye (Kn m.p L i) i (AZ 42 gr 1 q)) zp rfl λj H=>?_,AJ⟩ ?_;by_cases e:j=i;subst e;rw[Ys,Ys,vL 42 gr 1 hrl];exact Yp (f:=V.int .i64) rfl zp λ_=>rfl;rw[Zy _ _ e,Zy _ _ e];exact Zd;refine Y2 (λ_=>ab) [0,1,12,13,14] [] (l:=[]) (m:=[(3000,qC K 0 (Km L (Kn m.p L (i+1))))]) trivial ⟨gJ (rv:=Ye (Kn m.p L i) i (qE (Zb (m.p.reachL L s)))) zp rfl λj H=>?_,AJ⟩ ?_;by_cases e:j=i;subst e;rw[Ys,Kn,AF (GH _),hs];exact Zd;rw[Zy _ _ e];have:Kn m.p L (i+1) j=Kn m.p L i j:=by unfold Kn;by_cases h:j<i;rw[AF h,AF zo];rw[AA h,AA zo]
 rw[this];exact Zd;refine Zf w1 ?_;exact hL1 _ ⟨d,(),AJ,AO zp zp⟩;have hie:i=aa L:=zo;have R:=zV ((aa L:Int)<(aa L:Int));rw[hie];refine Zf R ?_;exact⟨_,rfl,rfl⟩
def C5(G)(t:Yy G)(cr b1 b2 b3 b4 b c d e f g m x)(P:EQ m.p x)(z:m.p.DM)(q)(j v:Int)(I:j=PM.srcOf q.1)(S:0<=v)(R:v<m.p.AN.length)(E:0<=j)(D:j<m.p.AN.length)(W:0<=q.1.first)(U:q.1.first<m.p.AE.length):Spec () G 59 [v,.view b1 (m.p.fixB j),.view b2 (Vn b c d e f g m x),.view b3 j,.view b4 (Wt cr q)] Zm (λw _=>w=.bool (!(m.p.inReach q.1 v))):=by
 refine Zo 0 51 _ func59 λX=>?_;generalize k:m.p.inReach _ v=rb;rw[PM.inReach,<- I]at k;have a:=z.FC;obtain⟨ns,H,ev,J,K,Y⟩:=m.at E D;obtain⟨nf,N,T,A,B,M⟩:=m.wyAt W U;have o:(m.p.vx j).region=H.region:=by rw[Y]<;>rfl
 have C:(m.p.wy q.1.first).AD=N.AD:=by rw[M]<;>rfl
 refine Z ?_;cases u:m.p.fixB j;refine Zf u ?_;refine Zv ⟨λ_=>.top,λi=>if i=3 then .any else .pure⟩ zk t zk zk ?_;refine Zs ?_;intro L;rw[u,AA zS]at k;refine W5 28 [Vn b c d e f g m x,j,Za .new 1 (V.int .u8) (.mk ab [1])] ⟨Zd,Zd,Xm (l:=[1]) rfl zp BE,AJ⟩ ?_;refine Zc t ?_ (s:=T8 G t _ _ _ _ _ _ _ m _ j E D _ zd);rw[KS];cases y:(m.p.kd j==1);have n:=zu y;rw[AA (λh=>n h.1)]at k;subst k;refine Zg y ?_;rfl;have n:=zu y;cases F:(N.AD==2);have r:¬(m.p.wy q.1.first).AD=2:=by rw[C];simpa using F
 rw[AA (λh=>r h.2)]at k;subst k;refine Zg (j9 T y F B A Tt Z6 Xl Ya) ?_;rfl;have r:(m.p.wy q.1.first).AD=2:=by rw[C];simpa using F
 rw[AF ⟨n,r⟩]at k;subst k;refine Zg (j9 T y F B A Tt Z6 Xl Ya) ?_;refine Zv ⟨λ_=>.bool (m.p.inB v j),λ_=>.pure⟩ zk t zk zk ?_;refine Xc @Tt ?_;refine⟨⟨zk,?_⟩,?_⟩;simp -implicitDefEqProofs only[go_sem,seval];exact(mW G t _ _ _ _ m.p a (P.rc _) v j S R E D n).mono λw _ e=>by rw[e]<;>rfl
 exact Zr;have Q:m.p.kd j≠10/\m.p.kd j≠11:=by unfold PM.fixB at u;simp only[F_,CX]at u;omega
 obtain⟨_,O,r1⟩:=z.fix j E D Q.1 Q.2;rw[u,AF rfl,o]at k;rw[o]at O;subst k;refine Zf u ?_;refine Zv ⟨λ_=>.bool (m.p.withinB v H.region),λ_=>.pure⟩ zk t zk zk ?_;rw[ev];simp -implicitDefEqProofs only[go_sem,seval,K,J,Tt,Zp,@DS,@GY];refine⟨⟨zk,?_⟩,?_⟩;simp -implicitDefEqProofs only[go_sem,seval];exact(ux G t _ _ _ _ m.p a (P.rc _) v H.region S R O).mono λw _ e=>by rw[e]<;>rfl
 exact Zr
def ABp(k a b c:Int):[a,b,c].contains k=(k==a||k==b||k==c):=by show List.elem k _=_;simp only[List.elem];cases k==a<;>cases k==b<;>cases k==c<;>rfl
def zW(G)(B:Yy G)(y b c d e f g m x)(M:EQ m.p x)(hw:m.p.AE.length<=600)(E:m.p.DM)(q)(hsn:q.1.BN≠[])(s0:0<=PM.srcOf q.1)(s1:PM.srcOf q.1<m.p.AN.length)(f0:0<=q.1.first)(f1:q.1.first<m.p.AE.length)(hel:q.1.AT.length<100000)(her:∀ e∈q.1.AT,e.1 = -1\/(0<=e.1/\e.1<m.p.AN.length))(hbr:∀ e∈q.1.AT,∀ t∈e.2,0<=t/\t<m.p.AE.length)(hbl:∀ e∈q.1.AT,e.2.length<100000)(hfl:q.1.DE.length<400000)(hfr:∀ t∈q.1.DE,0<=t/\t<m.p.AE.length)(hrl:q.2.length<100000)(hrr:∀ v∈q.2,0<=v/\v<m.p.AN.length):Spec () G 25 [Vn b c d e f g m x,Wt y q] Zm (m.p.rightS q.1 q.2):=by
 refine Zo 0 85 _ func25 λX=>?_;have hsr:∃ r,q.1.BN=PM.srcOf q.1::r:=by rcases h:q.1.BN with _|⟨a,r⟩;exact absurd h hsn;exact⟨r,by rw[PM.srcOf,h]<;>rfl⟩
 obtain⟨r,hsr⟩:=hsr;generalize N:PM.srcOf q.1=u at *;have h0:q.1.BN[0]?=ae u:=by rw[hsr]<;>rfl
 have hp:0<aa q.1.BN:=by rw[hsr];exact PB _
 refine Zf Xl ?_;intro g2 g3;refine Y2 (λo=>o==2||o==3) [4] [] (l:=[(2,qW (Vn b c d e f g m x)),(3,qW (Wt y q))]) (m:=[]) ?_ trivial ?_;refine Zs ?_;exact⟨CS zp zp,CS (v:=Wt y q) zp zp⟩;refine Zf (j3 h0 hp Xl) ?_;intro g5;have hEs:Vf y q.1.AT=Za y 2 (Uu y) (Zb q.1.AT):=rfl;refine qF 5 [2,3] [] 5 u ?_;refine Zf (zi Xl hEs) ?_;refine Wy (aa q.1.AT) (λk  _=>st [(2,qW (Vn b c d e f g m x)),(3,qW (Wt y q)),(5,qW u),(16,Za y 2 (Uu y) (Zb q.1.AT)),(17,qI (aa q.1.AT)),(18,k)] []) (λk _=>∀ i,i<k->m.p.endB q.1 i=ad) 0 () qz (λi h=>absurd h (FH _)) qs ?_;intro k _ hk hR L hL;by_cases J:k<aa q.1.AT;have hlt:=zU ((k:Int)<(aa q.1.AT:Int));have hg:=AY J;have I:=BT J;generalize q.1.AT[k]=z at hg I;refine Zf (j5 hlt hg J Ut Ya) ?_;intro g7;refine qF 7 [2,3,5,6,16,17,18] [] 7 (Uu y z) ?_;have T:PM.endAt q.1 k=z:=by rw[PM.endAt,DK,hg]<;>rfl
 have O:m.p.endB q.1 k=ab->m.p.rightS q.1 q.2=ab:=λh=>by
  have:((aE (aa q.1.AT)).all λi=>m.p.endB q.1 i)=ab:=by rw[V'];exact⟨k,DC.2 J,by rw[h];simp⟩
  rw[PM.rightS,this]<;>rfl
 by_cases e1:z.1 = -1;have Y:(z.1 == -1)=ad:=by rw[e1]<;>rfl
 rw[O (by rw[PM.endB,T,Y]<;>rfl)];refine Zf (zi Y Ut) ?_;rfl
 .have Y:=OG e1;obtain⟨en0,en1⟩:0<=z.1/\z.1<aa m.p.AN:=by rcases her z I with h|h;exact absurd h e1;exact h
  rcases hbe:z.2 with _|⟨t0,tr⟩;have hn:Za y 1 (V.int .i64) (Zb z.2)=.AG:=by rw[hbe]<;>rfl
  refine Zf (j3 Y Ut hn) ?_;refine S5 [Vn b c d e f g m x,Za y 1 (V.int .i64) .nil] ⟨Zd,Zd,AJ⟩ ?_;refine Zc B ?_ (s:=Jp G B _ _ _ _ _ _ _ m _ .nil zd (λt ht=>by cases ht) E.sc);have hB:m.p.endB q.1 k=((aE k).all λi=>m.p.orthoB (PM.endAt q.1 i).1 z.1):=by rw[PM.endB,T,Y,hbe]<;>rfl
  refine Zs ?_;have hsl:((Zb q.1.AT).sub 0 k).l=q.1.AT.take k:=by rw[Mq,Zl];simp
  have hsn:aa ((Zb q.1.AT).sub 0 k).l=k:=by rw[hsl,CZ];omega
  have P:min k (aa q.1.AT)=k:=zo;refine Zf (j6 Xl hEs hk (CB k) P Ya) ?_;refine Wy k (λj  _=>st [(2,qW (Vn b c d e f g m x)),(3,qW (Wt y q)),(5,qW u),(6,k),(7,qW (Uu y z)),(16,Za y 2 (Uu y) (Zb q.1.AT)),(17,qI (aa q.1.AT)),(18,k),(48,Za y 2 (Uu y) ((Zb q.1.AT).sub 0 k)),(49,k),(50,j)] [])
   (λj _=>∀ i,i<j->m.p.orthoB (PM.endAt q.1 i).1 z.1=ad) 0 () qz (λi h=>absurd h (FH _)) (AO (by refine Zs ?_;exact⟨rfl,by rw[Ut,hn],by rw[CZ,IS,P]⟩) zp) ?_
  intro j _ hj hJ L2 hL2;by_cases A:j<k
  .have C:=zU ((j:Int)<(k:Int));have F:=AY (l:=q.1.AT) (i:=j) zo;have Q:=BT (l:=q.1.AT) (n:=j) zo;generalize q.1.AT[j]'zo=D at F Q;have H:PM.endAt q.1 j=D:=by rw[PM.endAt,DK,F]<;>rfl
   have hgs:(bo (k-0) q.1.AT)[j]?=ae D:=by rw[IS,OU,AF A,F]
   have hjl:j<aa (bo (k-0) q.1.AT):=by rw[CZ,IS];omega
   have S:=hR j A;obtain⟨fn0,fn1⟩:0<=D.1/\D.1<aa m.p.AN:=by rcases her D Q with h|h;rw[PM.endB,H,h]at S;simp at S;exact h
   have w2:=wQ ((j:Int)+1);have R:=EI A;refine Zf (j6 R A hgs hjl Ut Ya) ?_;intro g9;refine Z ?_
   repeat first|refine BK ?_|refine Zz ?_
   refine Zv ⟨λ_=>.bool (m.p.orthoB D.1 z.1),λ_=>.pure⟩ zk B zk zk ?_;refine Xc (zi @Ut @Tt) ?_;refine⟨⟨zk,?_⟩,?_⟩;refine Zs ?_;exact zM (iI G B _ _ _ _ m.p E.FC (M.rc _) D.1 z.1 fn0 fn1 en0 en1);cases W:m.p.orthoB D.1 z.1;have hf:m.p.endB q.1 k=ab:=by rw[hB,V'];exact⟨j,DC.2 A,by rw[H,W];simp⟩
   rw[O hf];refine Zf W ?_;rfl;refine Zf (zi W w2) ?_;refine hL2 _ ⟨A,(),λi K=>?_,AO (by refine Zs ?_;exact⟨rfl,rfl,rfl⟩) zp⟩;rcases JU.1 K with h|h;exact hJ i h;subst h;rw[H];exact W
  have hje:j=k:=zo;have C:=zV ((k:Int)<(k:Int));rw[hje]at hJ⊢;have w1:=wQ ((k:Int)+1);refine Zf (zi C w1) ?_;refine hL _ ⟨J,(),λi K=>?_,AO zp zp⟩;rcases JU.1 K with h|h;exact hR i h;subst h;rw[hB,ER];exact λi K=>hJ i (DC.1 K);have hn:Za y 1 (V.int .i64) (Zb z.2)=.slice y ab 1 (z.2.map (V.int .i64)):=by rw[hbe]<;>rfl
  refine Zf (j3 Y Ut hn) ?_;intro g34;refine W5 34 [Vn b c d e f g m x,qI z.1,Za .new 1 (V.int .u8) (.mk ab [1])] ⟨Zd,Zd,Xm (f:=V.int .u8) (l:=[1]) rfl zp BE,AJ⟩ ?_;refine Zc B ?_ (s:=T8 G B _ _ _ _ _ _ _ m _ z.1 en0 en1 _ zd);rw[KS];have hne:(z.2==[])=ab:=by rw[hbe]<;>rfl
  cases qk:(m.p.kd z.1==1);rw[O (by rw[PM.endB,T,Y,hne,qk]<;>rfl)];refine Zg (zi qk hn) ?_;rfl;refine Zg (zi qk hn) ?_;refine S5 [Vn b c d e f g m x,Za y 1 (V.int .i64) (Zb z.2)] ⟨Zd,by rw[hn];exact Zd,AJ⟩ ?_;refine Zc B ?_ (s:=Jp G B _ _ _ _ _ _ _ m _ (Zb z.2) (by rw[Zl];exact GU (hbl z I) zd) (λt ht=>hbr z I t (by rw[Zl]at ht;exact ht)) E.sc);cases qf:m.p.forkedB z.2;have hB:m.p.endB q.1 k=((aE k).all λi=>m.p.orthoB (PM.endAt q.1 i).1 z.1):=by rw[PM.endB,T,Y,hne,qk,qf]<;>rfl
  refine Xc qf ?_;have hsl:((Zb q.1.AT).sub 0 k).l=q.1.AT.take k:=by rw[Mq,Zl];simp
  have hsn:aa ((Zb q.1.AT).sub 0 k).l=k:=by rw[hsl,CZ];omega
  have P:min k (aa q.1.AT)=k:=zo;refine Zf (j6 Xl hEs hk (CB k) P Ya) ?_;refine Wy k (λj  _=>st [(2,qW (Vn b c d e f g m x)),(3,qW (Wt y q)),(5,qW u),(6,k),(7,qW (Uu y z)),(16,Za y 2 (Uu y) (Zb q.1.AT)),(17,qI (aa q.1.AT)),(18,k),(48,Za y 2 (Uu y) ((Zb q.1.AT).sub 0 k)),(49,k),(50,j)] [])
   (λj _=>∀ i,i<j->m.p.orthoB (PM.endAt q.1 i).1 z.1=ad) 0 () qz (λi h=>absurd h (FH _)) (AO (by refine Zs ?_;exact⟨rfl,by rw[Ut,hn],by rw[CZ,IS,P]⟩) zp) ?_
  intro j _ hj hJ L2 hL2;by_cases A:j<k
  .have C:=zU ((j:Int)<(k:Int));have F:=AY (l:=q.1.AT) (i:=j) zo;have Q:=BT (l:=q.1.AT) (n:=j) zo;generalize q.1.AT[j]'zo=D at F Q;have H:PM.endAt q.1 j=D:=by rw[PM.endAt,DK,F]<;>rfl
   have hgs:(bo (k-0) q.1.AT)[j]?=ae D:=by rw[IS,OU,AF A,F]
   have hjl:j<aa (bo (k-0) q.1.AT):=by rw[CZ,IS];omega
   have S:=hR j A;obtain⟨fn0,fn1⟩:0<=D.1/\D.1<aa m.p.AN:=by rcases her D Q with h|h;rw[PM.endB,H,h]at S;simp at S;exact h
   have w2:=wQ ((j:Int)+1);have R:=EI A;refine Zf (j6 R A hgs hjl Ut Ya) ?_;intro g9;refine Z ?_
   repeat first|refine BK ?_|refine Zz ?_
   refine Zv ⟨λ_=>.bool (m.p.orthoB D.1 z.1),λ_=>.pure⟩ zk B zk zk ?_;refine Xc (zi @Ut @Tt) ?_;refine⟨⟨zk,?_⟩,?_⟩;refine Zs ?_;exact zM (iI G B _ _ _ _ m.p E.FC (M.rc _) D.1 z.1 fn0 fn1 en0 en1);cases W:m.p.orthoB D.1 z.1;have hf:m.p.endB q.1 k=ab:=by rw[hB,V'];exact⟨j,DC.2 A,by rw[H,W];simp⟩
   rw[O hf];refine Zf W ?_;rfl;refine Zf (zi W w2) ?_;refine hL2 _ ⟨A,(),λi K=>?_,AO (by refine Zs ?_;exact⟨rfl,rfl,rfl⟩) zp⟩;rcases JU.1 K with h|h;exact hJ i h;subst h;rw[H];exact W
  have hje:j=k:=zo;have C:=zV ((k:Int)<(k:Int));rw[hje]at hJ⊢;have w1:=wQ ((k:Int)+1);refine Zf (zi C w1) ?_;refine hL _ ⟨J,(),λi K=>?_,AO zp zp⟩;rcases JU.1 K with h|h;exact hR i h;subst h;rw[hB,ER];exact λi K=>hJ i (DC.1 K);rw[O (by rw[PM.endB,T,Y,hne,qk,qf]<;>rfl)];refine Zg qf ?_;rfl
 .have hke:k=aa q.1.AT:=zo;have hlt:=zV ((aa q.1.AT:Int)<(aa q.1.AT:Int));rw[hke]at hR⊢;have hall:((aE (aa q.1.AT)).all λi=>m.p.endB q.1 i)=ad:=by rw[ER];exact λi K=>hR i (DC.1 K)
  rw[PM.rightS,hall,DJ,N];refine Zf (zi hlt Xl) ?_;intro g68;refine W5 68 [Vn b c d e f g m x,u,Za .new 1 (V.int .u8) (.mk ab [3,8,9])] ⟨Zd,Zd,Xm (f:=V.int .u8) (l:=[3,8,9]) rfl zp BE,AJ⟩ ?_;refine Zc B ?_ (s:=T8 G B _ _ _ _ _ _ _ m _ u s0 s1 _ zd);rw[ABp,<- show m.p.fixB u=(m.p.kd u==3||m.p.kd u==8||m.p.kd u==9)from rfl];cases qx:m.p.fixB u
  .refine Zg (zi qx Xl) ?_;intro g10;refine Zf (zi qx Xl) ?_;refine W5 10 [Za y 1 (V.int .i64) (Zb q.2),.func (.func 59) [] [qW (m.p.fixB u),qW (Vn b c d e f g m x),qW u,qW (Wt y q)]] ⟨Zd,by rw[qx];exact Fz.func ⟨CS zp zp,Zd,Zd,Zd,AJ⟩,AJ⟩ ?_;refine Zc B ?_ (ha:=by simp only[BI,BV,Xv,V.recol,Xd,Sq,U7]) (s:=Gg G B y.ent 59 (λU=>∃ y b1 b2 b3 b4 b c d e f g x,EQ m.p x/\U=[.view b1 (m.p.fixB u),.view b2 (Vn b c d e f g m x),.view b3 u,.view b4 (Wt y q)]) (by
    rintro _ ⟨y,b1,b2,b3,b4,b,c,d,e,f,g,x,M,rfl⟩;exact⟨_,_,_,_,_,_,_,_,_,_,_,_,M.rc _,by simp only[BI,BV,V.recol,Sq,U7];rfl⟩) [.view AH.new.ent (m.p.fixB u),.view AH.new.ent (Vn b.ent c.ent d.ent e.ent f.ent g.ent m (x.rc AH.ent)),.view AH.new.ent u,.view AH.new.ent (Wt y.ent q)] ⟨_,_,_,_,_,_,_,_,_,_,_,_,M.rc _,rfl⟩ zk (λv => !(m.p.inReach q.1 v)) (Zb q.2) (by rw[Zl];exact GU hrl zd) (by
    rintro v hv _ ⟨y,b1,b2,b3,b4,b,c,d,e,f,g,x,M,rfl⟩;rw[Zl]at hv;obtain⟨v0,v1⟩:=hrr v hv;exact C5 G B y b1 b2 b3 b4 b c d e f g m x M E q u v N.symm v0 v1 s0 s1 f0 f1))
   refine Z ?_
   skip
   first|rfl|(rw[b7];first|rfl|simp)
  .refine Zg (zi qx Xl) ?_;intro g10;refine Zf (zi qx Xl) ?_;refine S5 [Vn b c d e f g m x,Za y 1 (V.int .i64) (Zb q.1.DE)] ⟨Zd,Zd,AJ⟩ ?_;refine Zc B ?_ (s:=Jp G B _ _ _ _ _ _ _ m _ (Zb q.1.DE) (by rw[Zl];exact GU hfl zd) (λt ht=>hfr t (by rw[Zl]at ht;exact ht)) E.sc);cases qf:m.p.forkedB q.1.DE
   .refine Zg (zi qf Xl) ?_;refine W5 10 [Za y 1 (V.int .i64) (Zb q.2),.func (.func 59) [] [qW (m.p.fixB u),qW (Vn b c d e f g m x),qW u,qW (Wt y q)]] ⟨Zd,by rw[qx];exact Fz.func ⟨CS zp zp,Zd,Zd,Zd,AJ⟩,AJ⟩ ?_;refine Zc B ?_ (ha:=by simp only[BI,BV,Xv,V.recol,Xd,Sq,U7]) (s:=Gg G B y.ent 59 (λU=>∃ y b1 b2 b3 b4 b c d e f g x,EQ m.p x/\U=[.view b1 (m.p.fixB u),.view b2 (Vn b c d e f g m x),.view b3 u,.view b4 (Wt y q)]) (by
     rintro _ ⟨y,b1,b2,b3,b4,b,c,d,e,f,g,x,M,rfl⟩;exact⟨_,_,_,_,_,_,_,_,_,_,_,_,M.rc _,by simp only[BI,BV,V.recol,Sq,U7];rfl⟩) [.view AH.new.ent (m.p.fixB u),.view AH.new.ent (Vn b.ent c.ent d.ent e.ent f.ent g.ent m (x.rc AH.ent)),.view AH.new.ent u,.view AH.new.ent (Wt y.ent q)] ⟨_,_,_,_,_,_,_,_,_,_,_,_,M.rc _,rfl⟩ zk (λv => !(m.p.inReach q.1 v)) (Zb q.2) (by rw[Zl];exact GU hrl zd) (by
     rintro v hv _ ⟨y,b1,b2,b3,b4,b,c,d,e,f,g,x,M,rfl⟩;rw[Zl]at hv;obtain⟨v0,v1⟩:=hrr v hv;exact C5 G B y b1 b2 b3 b4 b c d e f g m x M E q u v N.symm v0 v1 s0 s1 f0 f1))
    refine Z ?_
    skip
    first|rfl|(rw[b7];first|rfl|simp)
   refine Zg (zi qf Xl) ?_
   first|rfl|simp
section
namespace PM
variable(m:PM)
def ownK(n:Nat):List (Int×iS):=(aE n).foldl (λL (r:Nat)=>R8 L (m.ow (r:Int)) (r:Int)) []
def pntK(n:Nat):List (Int×iS):=(aE n).foldl (λL (i:Nat)=>if 0<=(m.vx (i:Int)).of then R8 L (m.vx (i:Int)).of (i:Int)else L) []
def kidL(n:Nat)(r:Nat):iS:=((aE n).filter fun(i:Nat)=>decide ((m.vx (i:Int)).of<0)&&(m.vx (i:Int)).region==(r:Int)).map fun(i:Nat)=>(i:Int)
variable{m}
def ownK_succ(n):m.ownK (n+1)=R8 (m.ownK n) (m.ow (n:Int)) (n:Int):=by rw[ownK,HW,KI];rfl
def pntK_pt{n:Nat}(h:0<=(m.vx (n:Int)).of):m.pntK (n+1)=R8 (m.pntK n) (m.vx (n:Int)).of (n:Int):=by rw[pntK,HW,KI];show(if _ then _ else _)=_;rw[AF h];rfl
def pntK_no{n:Nat}(h:¬0<=(m.vx (n:Int)).of):m.pntK (n+1)=m.pntK n:=by rw[pntK,HW,KI];show(if _ then _ else _)=_;rw[AA h];rfl
def kidL_pt{n:Nat}(h:0<=(m.vx (n:Int)).of):m.kidL (n+1)=m.kidL n:=by funext r;rw[kidL,HW,HH,JG zG];simp[kidL]
def kidL_at{n r:Nat}(h:(m.vx (n:Int)).of<0)(a:(m.vx (n:Int)).region=(r:Int)):m.kidL (n+1)=Ye (m.kidL n) r (m.kidL n r++[(n:Int)]):=by funext q;rw[kidL,HW,HH];by_cases e:q=r;subst e;rw[KH zG];simp[kidL];rw[Zy _ _ e,JG zG];simp[kidL]
def ownK_len:∀ n,aa (m.ownK n)<=n
 |0=>BO _|n+1=>by rw[ownK_succ];have:=ownK_len n;have:=XX (m.ownK n) (m.ow (n:Int)) (n:Int);omega
def pntK_len:∀ n,aa (m.pntK n)<=n
 |0=>BO _|n+1=>by have a:=pntK_len n;by_cases h:0<=(m.vx (n:Int)).of;rw[pntK_pt h];have:=XX (m.pntK n) (m.vx (n:Int)).of (n:Int);omega;rw[pntK_no h];omega
def kidL_len(n r):(m.kidL n r).length<=n:=by rw[kidL,BC];grind
end PM
def kA{B}:∀ {L} {k r} j,(∀ j,(Up L j).length<=B)->(Up (R8 L k r) j).length<=B+1:=fun{L k r} j h=>by rw[Ky];by_cases e:j=Pd L k;simp_all;rw[Zy _ _ e];grind
namespace PM
variable{m:PM}
def ownK_row:∀ n j,aa (Up (m.ownK n) j)<=n
 |0,j=>by simp[ownK,Up]|n+1,j=>by rw[ownK_succ];exact kA j (ownK_row n)
def pntK_row:∀ n j,aa (Up (m.pntK n) j)<=n
 |0,j=>by simp[pntK,Up]|n+1,j=>by by_cases h:0<=(m.vx (n:Int)).of;rw[pntK_pt h];exact kA j (pntK_row n);rw[pntK_no h];have:=pntK_row n j;omega
end PM
namespace PM
variable{m:PM}
def vP(v t):m.wysI v ab (t+1)=if(m.wy (t:Int)).AV=v then m.wysI v ab t++[(t:Int)]else m.wysI v ab t:=by rw[wysI_succ];grind
def zB(v t):m.wysI v ad (t+1)=if(m.wy (t:Int)).target=v then m.wysI v ad t++[(t:Int)]else m.wysI v ad t:=by rw[wysI_succ];grind
def outs_next{t a:Nat}(h:(m.wy (t:Int)).AV=(a:Int)):(λj:Nat=>m.wysI (j:Int) ab (t+1))=Ye (λj:Nat=>m.wysI (j:Int) ab t) a (m.wysI (a:Int) ab t++[(t:Int)]):=by funext j;rw[vP,h];by_cases e:j=a;simp_all;rw[Zy _ _ e,AA (by omega)]
def intos_next{t a:Nat}(h:(m.wy (t:Int)).target=(a:Int)):(λj:Nat=>m.wysI (j:Int) ad (t+1))=Ye (λj:Nat=>m.wysI (j:Int) ad t) a (m.wysI (a:Int) ad t++[(t:Int)]):=by funext j;rw[zB,h];by_cases e:j=a;simp_all;rw[Zy _ _ e,AA (by omega)]
