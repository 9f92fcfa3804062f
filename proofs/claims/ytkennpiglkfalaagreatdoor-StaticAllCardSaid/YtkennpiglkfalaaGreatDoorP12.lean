/- A part. No condition. -/
import Derived.Test.YtkennpiglkfalaaGreatDoorP11
set_option linter.all false
open List renaming length->aa
open Bool renaming true->ad
open Option renaming some->ae
open List renaming getD->ao
namespace Go.Hs
section
variable{P:Program}{E:BX}{s:AS}{a:Act}{w:World}
inductive Cv(F:Nat->Bool)(H:A')(col:AH->AH)(B:V->V->Prop):V->V->Prop
 |base (v v':V) (h:B v v'):Cv F H col B v v'
 |A_ (o g off len E:Nat) (c:AH) (fz:Nat) (cs l:List V) (hF:F o=ad) (ho:H o=.cells c g fz cs) (hl:aa l=len) (hE:∀ v∈l,aa v.cells=E) (hfit:off+len*E<=aa cs)
   (hr:∀ i (h1:off+i<aa cs) (h2:i<aa (flat l)),Cv F H col B cs[off+i] (flat l)[i]):Cv F H col B (.A_ o g off len E) (.slice (col c) false E l)
 |ptr (o g off:Nat) (c:AH) (fz:Nat) (cs:List V) (v:V) (hF:F o=ad) (ho:H o=.cells c g fz cs) (hfit:off+aa v.cells<=aa cs)
   (hr:∀ i (h1:off+i<aa cs) (h2:i<aa v.cells),Cv F H col B cs[off+i] v.cells[i]):Cv F H col B (.ptr o g off) (.view (col c) v)
 |func (fn:Fn) (xs ys xs' ys':List V) (hx:aa xs=aa xs') (hy:aa ys=aa ys') (hxr:∀ i (h1:i<aa xs) (h2:i<aa xs'),Cv F H col B xs[i] xs'[i])
   (hyr:∀ i (h1:i<aa ys) (h2:i<aa ys'),Cv F H col B ys[i] ys'[i]):Cv F H col B (.func fn xs ys) (.func fn xs' ys')
 |iface (t:TypeId) (v v':V) (h:Cv F H col B v v'):Cv F H col B (.iface t v) (.iface t v')
 |agg (xs xs':List V) (hx:aa xs=aa xs') (hr:∀ i (h1:i<aa xs) (h2:i<aa xs'),Cv F H col B xs[i] xs'[i]):Cv F H col B (.agg xs) (.agg xs')
 |tuple (xs xs':List V) (hx:aa xs=aa xs') (hr:∀ i (h1:i<aa xs) (h2:i<aa xs'),Cv F H col B xs[i] xs'[i]):Cv F H col B (.tuple xs) (.tuple xs')
def Cv.CV{F H col B X Y}(I:BZ X H)(K:∀ x v v',B v v'->AI X x v->AI Y x v')(J:∀ o c g fz cs b bs,F o=ad->H o=.cells c g fz cs->X.β o g=ae (b,bs)->(col c).ok Y.base b/\∀ i,i<cs.length->Y.S b (bs+i))(m:∀ b i x,X.cell b i=ae x->Y.cell b i=ae x){v v'}(h:Cv F H col B v v'):∀ {x},AI X x v->AI Y x v':=by
 induction h with
 |base v v' h=>exact λu=>K _ _ _ h u|A_ o g off len E c fz cs l hFo ho hl hE hfit u ih=>
  intro x n;cases n with
  |A_ _ _ _ _ _ b bs cap hβ hcap hb=>
   obtain⟨p,D⟩:=J o c g fz cs b bs hFo ho hβ;obtain⟨A,t,s,r,C⟩:=I.cells ho hβ;have q:=V2 hE;have G:=C.len;have e:∀ i (f),∃ y,((A.toList.drop bs).take (aa cs))[i]?=ae y/\X.cell b (bs+i)=ae y/\y.oneCell'=ad/\AI X y cs[i]:=by intro i f;obtain⟨y,d,h2,j⟩:=C.get? (AY f);refine⟨y,d,?_,j,h2⟩;rw[Sx f]at d;show X.w.cell? _=ae y;rw[Lw s];simpa using d
   have:=AI.slice _ false E l b (bs+off) cap (λi=>((A.toList.drop bs).take (aa cs)).getD (off+i) undef) zo zS hE
    (λi f=>by obtain⟨y,d,h2,j,_⟩:=e (off+i) (by rw[q,hl]at f;omega);refine⟨by have:=D (off+i) (by rw[q,hl]at f;omega);rwa [<- GM]at this,p,?_,?_⟩;have:=m _ _ _ h2;rw[<- GM]at this;rw[this];simp[ao,d];simp[ao,d,j])
    (λi f=>by
     have k:off+i<aa cs:=by rw[q,hl]at f;omega
     obtain⟨y,d,_,_,z⟩:=e (off+i) k;have:=ih i k f z;simpa[ao,d]using this)
   rw[hl]at this;exact this
 |ptr o g off c fz cs v hFo ho hfit u ih=>
  intro x n;cases n with
  |ptr _ _ _ b bs hβ=>
   obtain⟨p,D⟩:=J o c g fz cs b bs hFo ho hβ;obtain⟨A,t,s,r,C⟩:=I.cells ho hβ;have e:∀ i (f),∃ y,((A.toList.drop bs).take (aa cs))[i]?=ae y/\X.cell b (bs+i)=ae y/\y.oneCell'=ad/\AI X y cs[i]:=by intro i f;obtain⟨y,d,h2,j⟩:=C.get? (AY f);refine⟨y,d,?_,j,h2⟩;rw[Sx f]at d;show X.w.cell? ⟨b,bs+i,none⟩=ae y;rw[Lw s];simpa using d
   refine .view (col c) v b (bs+off) (λi=>((A.toList.drop bs).take (aa cs)).getD (off+i) undef) (λi f=>?_) (λi f=>?_);obtain⟨y,d,h2,j,_⟩:=e (off+i) zo;refine⟨by have:=D (off+i) zo;rwa [<- GM]at this,p,?_,?_⟩;have:=m _ _ _ h2;rw[<- GM]at this;rw[this];simp[ao,d];simp[ao,d,j];have k:off+i<aa cs:=zo;obtain⟨y,d,_,_,z⟩:=e (off+i) k;have:=ih i k f z;simpa[ao,d]using this
 |func fn xs ys xs' ys' n hy hxr hyr ihx ihy=>intro x h;cases h with|func _ as bs _ _ d h2 j z=>exact .func fn as bs _ _ zo zo (λi a b=>ihx i zo b (j i a zo)) (λi a b=>ihy i zo b (z i a zo))
 |iface t v v' h ih=>intro x n;cases n with|iface _ y _ h=>exact .iface t y _ (ih h)
 |agg xs xs' n u ih=>intro x h;cases h with|agg as _ d h2 j=>exact .agg as _ zo h2 (λi a b=>ih i zo b (j i a zo))
 |tuple xs xs' n u ih=>intro x h;cases h with|tuple as _ d j=>exact .tuple as _ zo (λi a b=>ih i zo b (j i a zo))
inductive V.Fl:V->Prop
 |bool (b:Bool):Fl (.bool b)
 |int (k:IntKind) (n:Int):Fl (.int k n)
 |AB (s:bS):Fl (.AB s)
 |ET:Fl .ET
 |AG:Fl .AG
 |CN:Fl .CN
 |GE:Fl .GE
 |FE:Fl .FE
 |agg (l:List V) (h:∀ x∈l,Fl x):Fl (.agg l)
 |tuple (l:List V) (h:∀ x∈l,Fl x):Fl (.tuple l)
 |iface (t:TypeId) (v:V) (h:Fl v):Fl (.iface t v)
def AI.flat{X Y x v}(h:AI X x v)(a:v.Fl):AI Y x v:=by
 induction h with
 |bool b=>exact .bool b|int k n=>exact .int k n|AB s l h=>exact .AB s l h|ET=>exact .ET|AG=>exact .AG|CN=>exact .CN|GE=>exact .GE|FE=>exact .FE|agg xs l hx ho hr ih=>cases a with|agg _ h=>exact .agg xs l hx ho (λi c h2=>ih i c h2 (h _ (BT _)))
 |tuple xs l hx hr ih=>cases a with|tuple _ h=>exact .tuple xs l hx (λi c h2=>ih i c h2 (h _ (BT _)))
 |iface t x v h ih=>cases a with|iface _ _ h=>exact .iface t x v (ih h)
 |_=>cases a
def Rd(H:A'):V->V->Prop:=Cv (λ_=>ad) H (λ_=>.old) (λv a=>v.Im/\a=v.recol AH.ent)
def E1{G}(p:Yy G){f args args' H K}(M:Yf P f=ad)(A:args'.length=args.length)(I:∀ i h1 (h2:i<args'.length),Rd H args[i] args'[i])(h:Spec P G f args' Zm (λv _=>v.Fl/\K v H)):CallA P G f args H K:=by
 refine⟨M,λX u l U V=>?_⟩;let s:Cx:={β:=λ_ _=>none,S:=λb _=>b<X.w.heap.size,base:=X.w.heap.size,w:=X.w};have N:BZ s Zm:=⟨λo c g C D k=>(by cases k),λo1 c1 g1 f1 l1 o2 c2 g2 f2 l2 b s1 s2 h1=>zG,λb i j=>⟨j,λo c g C D F k=>zG⟩,λo=>⟨0,λ_ _=>rfl⟩,BO _,λb i j a=>absurd j (PA.2 a),.no λo lo b ks vs k=>(by cases k),.no λo b r k=>(by cases k)⟩;have m:∀ x v,AI X x v->v.Im->AI s x _:=λx v y J=>
  y.conv (Y:=s) AH.ent (λb i j=>(l.DD b i j).1) (λ_ _ _ _ h=>h) ⟨λ_ c _ h=>⟨c,h,rfl⟩,λ_ _ _ _ h=>h⟩ (λc b a _=>by cases c<;>first|exact a|trivial) (.inr J)
 have O:∀ g,FI s g _:=λg=>by refine⟨?_,(U g).sz.reb rfl rfl (p g).1⟩;have:=m _ _ (U g).CV (p g).2;rwa [(p g).1]at this
 have Q:FA s u args':=by refine⟨by rw[V.len,A],λi h1 h2=>?_⟩;refine Cv.CV (Y:=s) l (λx v v' a y=>by obtain⟨h1,rfl⟩:=a;exact m _ _ y h1) ?_ (λ_ _ _ h=>h) (I i zo h2) (V.CV i h1 zo);intro o c g C D b F _ k R;exact⟨l.lt k R,λi _=>l.lt k R⟩
 refine(h s _ rfl N O Q).mono ?_;rintro e w' ⟨c,v,H',Y,rfl,rfl,E,y,L,hk⟩;have z:∀ b,¬Wk s Zm b:=by rintro b (⟨o,c,g,C,D,F,k,_⟩|⟨o,r,k⟩)<;>cases k
 have d:=λb a=>E.kp.block b a (z b);let Z:={X with w:=Y.w};have q:X.le Z:=by
  refine⟨λ_ _ _ h=>h,λ_ _ h=>h,λb i x j T=>?_,rfl,λb c t a=>⟨c,?_,rfl⟩,λb es n _ a=>?_⟩;have:=d b (World.block_lt_of_cell? _ _ T);show Y.w.cell? _=ae x;rw[World.cell?_of_block this];exact T;have:b<X.w.heap.size:=by rw[DB]at a;exact a.1
  rw[d b this];exact a;have:b<X.w.heap.size:=by rw[DB]at a;exact a.1
  rw[d b this];exact a
 have B:E_ (Wk X H) X.w Z.w:=E.kp.mono λb _ W=>absurd W (z b);refine⟨c,v,H,Z,rfl,rfl,⟨⟨?_,l.inj,?_,l.CK,?_,l.thaw_le q λ_ _ j=>j,l.mps_tr q (λ_ _ _ _ _ h=>h) B λ_ _ j=>.inl j,l.lps_tr (λ_ _ _ h=>h) λb r a=>d b (DB.1 a).1⟩,q,B,λb i j=>.inl j,λb a=>.inr a⟩,y.flat L,hk⟩;intro o c g C D k;obtain⟨b,F,h1,h2,c',t,h3,h4,h5⟩:=l.DQ o c g C D k;exact⟨b,F,h1,h2,c',t,by rw[d b (l.lt k h1)];exact h3,h4,h5.mono q⟩;intro b i j;exact⟨GU (l.DD b i j).1 E.kp.size,(l.DD b i j).2⟩;exact CT l.bw E.kp.size
def F0{X}(b):¬Wk X Zm b:=by rintro(⟨o,c,g,d,e,f,a,_⟩|⟨o,r,a⟩)<;>cases a
def Fz(F:Nat->Bool)(H:A'):V->V->Prop:=Cv F H id (λv a=>a=v\/a=.top\/a=v.recol λ_=>.any)
def FzO(F:Nat->Bool)(H:A')(o:Nat):BL->Prop
 |.AR=>True|.mp lo b ks vs=>∃ vs0,H o=.mp lo b ks vs0/\aa vs=aa vs0/\∀ i h1 (h2:i<aa vs),Fz F H vs0[i] vs[i]|.lp b r=>H o=.lp b r|.cells c g fz cs=>∃ c0 fz0 cs0,H o=.cells c0 g fz0 cs0/\(c=c0\/c=.any)/\fz0<=fz/\(F o=ad->aa cs0<=fz)/\aa cs=aa cs0/\∀ i h1 (h2:i<aa cs),Fz F H cs0[i] cs[i]
def gY{X H}(k:BZ X H)(F){H'}(Q:∀ o,FzO F H o (H' o)):∃ Y,Y.w=X.w/\BH X H Y H'/\∀ x v v',Fz F H v v'->AI X x v->AI Y x v':=by
 let Y:Cx:={X with S:=λb i=>X.S b i\/∃ o c g fz cs bs,F o=ad/\H o=.cells c g fz cs/\X.β o g=ae (b,bs)/\bs<=i/\i<bs+aa cs};have B:X.le Y:=⟨λ_ _ _ h=>h,λ_ _ h=>.inl h,λ_ _ _ _ h=>h,rfl,λ_ c _ h=>⟨c,h,rfl⟩,λ_ _ _ _ h=>h⟩;have hrel:∀ x v v',Fz F H v v'->AI X x v->AI Y x v':=by intro x v v' hf M;refine Cv.CV (Y:=Y) k ?_ ?_ (λ_ _ _ h=>h) hf M;rintro x v v' (rfl|rfl|rfl) M;exact M.mono B;exact .top _;exact M.conv (Y:=Y) (λ_=>.any) (λ_ _ h=>.inl h) (λ_ _ _ _ h=>h) ⟨λ_ c _ h=>⟨c,h,rfl⟩,λ_ _ _ _ h=>h⟩ (λ_ _ _ _=>trivial) (.inl λ_ _ _ h=>h);intro o c g fz cs b bs N d l;obtain⟨b',R,f,h2,_⟩:=k.DQ o c g fz cs d;rw[l]at f;cases f;exact⟨h2,λi hi=>.inr ⟨o,c,g,fz,cs,bs,N,d,l,zo,zo⟩⟩
 have m:∀ o c g fz cs,H' o=.cells c g fz cs->∃ y j e,H o=.cells y g j e/\(c=y\/c=.any)/\j<=fz/\(F o=ad->aa e<=fz)/\aa cs=aa e/\∀ i (f) (h2:i<aa cs),Fz F H e[i] cs[i]:=by intro o c g fz cs d;have:=Q o;rw[d]at this;exact this
 have U:∀ o b r,H' o=.lp b r->H o=.lp b r:=λo b r d=>by have:=Q o;rw[d]at this;exact this
 have J:∀ b i,Y.S b i->X.S b i\/X.w.heap.size<=b\/Wk X H b:=by rintro b i (s|⟨o,c,g,fz,cs,bs,N,d,l,f,h2⟩);exact .inl s;exact .inr (.inr (.inl ⟨o,c,g,fz,cs,bs,d,l⟩))
 refine⟨Y,rfl,⟨⟨?_,?_,?_,k.CK,k.bw,λb i s hb=>(by rcases s with s|⟨o,c,g,fz,cs,bs,_,d,l,_⟩;exact k.IM b i s hb;exact .inl (k.live_thaw ⟨o,c,g,fz,cs,bs,d,l⟩)),(λo K b L C d=>?_),k.lps_tr U λ_ _ _=>rfl⟩,B,QA _ _,J,?_⟩,hrel⟩
 intro o c g fz cs d;obtain⟨y,j,e,f,P,h2,W,V,h5⟩:=m _ _ _ _ _ d;obtain⟨b,bs,z,D,c',t,I,G,E⟩:=k.DQ o y g j e f;have D:c.ok X.base b:=by rcases P with rfl|rfl;exact D;trivial
 refine⟨b,bs,z,D,c',t,I,zo,?_⟩;rw[V];refine⟨by rw[E.len,V],E.one,λi a b=>?_⟩;exact hrel _ _ _ (h5 i zo b) (E.CV i a zo);intro o1 c1 g1 f1 l1 o2 c2 g2 f2 l2 b s1 s2 f h2;obtain⟨_,_,_,f,_⟩:=m _ _ _ _ _ f;obtain⟨_,_,_,h2,_⟩:=m _ _ _ _ _ h2;exact k.inj _ _ _ _ _ _ _ _ _ _ _ _ _ f h2;rintro b i (s|⟨o,c,g,fz,cs,bs,N,d,l,f,h2⟩);refine⟨(k.DD b i s).1,λo c g fz cs bs d l => ?_⟩;obtain⟨y,j,e,f,_,h2,_⟩:=m _ _ _ _ _ d;have:=(k.DD b i s).2 _ _ _ _ _ _ f l;omega;refine⟨k.lt d l,λo' c' g' fz' cs' R O A=>?_⟩;obtain⟨y,j,e,z,_,D,I,G,_⟩:=m _ _ _ _ _ O;have:=k.inj _ _ _ _ _ _ _ _ _ _ _ _ _ z d A l;subst this;rw[d]at z;cases z;rw[l]at A;cases A;have:=I N;omega;have T:∀ o K b L C,H' o=.mp K b L C->∃ u,H o=.mp K b L u/\aa C=aa u/\∀ i (f) (h2:i<aa C),Fz F H u[i] C[i]:=λo K b L C d=>by have:=Q o;rw[d]at this;exact this
 obtain⟨u,f,h2,W⟩:=T _ _ _ _ _ d;obtain⟨z,D,I,es,n,G,E,q6,q7,q8⟩:=k.KB _ _ _ _ _ f;refine⟨z,?_,λo2 lo2 ks2 vs2 q=>by obtain⟨_,q9,_⟩:=T _ _ _ _ _ q;exact I _ _ _ _ q9,es,n,G,E,zo,λi p q=>(q7 i p q).mono B,λi p q=>hrel _ _ _ (W i zo q) (q8 i p zo)⟩;intro s;rcases J b 0 s with q|q|q;exact D q;have:=(DB.1 G).1;omega;exact k.not_live G q;refine Ue (λo b r d=>.inr (.inr ⟨o,r,U _ _ _ d⟩)) ?_;rintro b ⟨o,c,g,fz,cs,bs,d,l⟩;obtain⟨y,j,e,f,_⟩:=m _ _ _ _ _ d;exact .inr (.inl ⟨o,y,g,j,e,bs,f,l⟩)
def T4(F){s s'}(d:∀ t,s'.τ t=.top\/Fz F s.H (s.τ t) (s'.τ t))(i:∀ o,FzO F s.H o (s'.H o)):Weak E s s':=by rintro a w ⟨X,b⟩;obtain⟨Y,e,c,f⟩:=gY b.go.BJ F i;refine⟨Y,by rw[e,b.hw],b.on_ c,b.df.go b.go.BJ c,b.sz,λt=>?_,λg=>(b.gl g).go b.go.BJ c⟩;rcases d t with h|h;rw[h];exact .top _;exact f _ _ _ h (b.tm t)
def I1(F){G f args args' H H' K}(a:args'.length=args.length)(w:∀ i h1 (h2:i<args'.length),Fz F H args[i] args'[i])(t:∀ o,FzO F H o (H' o))(h:CallA P G f args' H' K):CallA P G f args H K:=by refine⟨h.1,λX j m u l=>?_⟩;obtain⟨Y,r,b,s⟩:=gY m F t;have d:FA Y _ _:=⟨by rw[l.len,a],λi h1 h2=>s _ _ _ (w i zo h2) (l.CV i h1 zo)⟩;have:=h.2 Y _ b.BJ (λg=>(u g).go m b) d;rw[r]at this;refine this.mono ?_;rintro e w' ⟨c,v,k,Z,rfl,rfl,q,p,n⟩;exact⟨c,v,k,Z,rfl,rfl,b.trans q,p,n⟩
