/- A part. No condition. -/
import Derived.Test.YtkennpiglkfalaaGreatDoorP24
set_option linter.all false
open List renaming length->aa
open Bool renaming false->ab,true->ad
open Option renaming some->ae,none->ah
open Classical renaming choose->aF
open List renaming range->aE
open Go.World renaming block_lt_of_cell?->aG,cell?_of_block->aH
namespace Go.Hs
section
variable{P:Program}{E:BX}
def AS.ent(s:AS):AS:=⟨λt=>(s.τ t).recol AH.ent,λo=>(s.H o).recol AH.ent⟩
def AS.bk(s:AS):AS:=⟨λt=>(s.τ t).recol AH.bk,λo=>(s.H o).recol AH.bk⟩
def gZ{f}{ob:BL}{lo b ks vs}(h:ob.recol f=.mp lo b ks vs):False:=by cases ob<;>simp[BL.recol]at h
def Uj{f}{ob:BL}{c g fz cs}(h:ob.recol f=.cells c g fz cs):∃ c0 cs0,ob=.cells c0 g fz cs0/\c=f c0/\cs=Xd f cs0:=by cases ob with|AR=>simp[BL.recol]at h|mp=>simp[BL.recol]at h|lp=>simp[BL.recol]at h|cells c0 g0 fz0 cs0=>obtain⟨rfl,rfl,rfl,rfl⟩:=h;grind
def sA{c Q s}(hG:Yy E.G)(h:∀ X1 H1,X1.base=X1.w.heap.size->BZ X1 H1->AW P ⟨X1,H1,E.n,E.q,E.G,ah,[],.plain⟩ c (λe s'=>Q e s'.bk) s.ent)(R:E.df=[]:=by rfl)(hkp:E.kp=ah:=by rfl)(N:E.rk=.plain:=by rfl):AW P E c Q s:=by
 rintro a w ⟨X,D⟩;have y:=D.go.BJ;have hw:=D.hw;let F:={X with base:=X.w.heap.size};have z:∀ c b,b<X.w.heap.size->AH.ok c X.base b->(AH.ent c).ok F.base b:=by intro c b l _;cases c;exact l;exact l;trivial
 have A:∀ x v,AI X x v->AI F x _:=λx v hr=>
  hr.conv (X:=X) (Y:=F) _ (λ_ _ h=>h) (λ_ _ _ _ h=>h) ⟨λ_ c _ h=>⟨c,h,rfl⟩,λ_ _ _ _ h=>h⟩ z (.inl λ_ _ _ h=>h)
 have U:BZ F s.ent.H:=by refine⟨?_,?_,?_,y.CK,BO _,λb i u l=>absurd (y.DD b i u).1 (PA.2 l),.no λo lo b ks vs f=>gZ f,.no λo b r f=>Fr f⟩;intro o c g B L f;obtain⟨M,p,d,rfl,rfl⟩:=Uj f;have⟨b,C,h2,K,c',t,h4,h5,h6⟩:=y.DQ o M g B _ d;refine⟨b,C,h2,z _ _ (y.lt d h2) K,c',t,h4,by rw[Yl,BC];exact h5,?_⟩;have:=h6.conv (X:=X) (Y:=F) _ (λ_ _ h=>h) (λ_ _ _ _ h=>h) ⟨λ_ c _ h=>⟨c,h,rfl⟩,λ_ _ _ _ h=>h⟩ z (λ_ _ _ h=>h);rw[Yl,BC];rw[Yl]at this;exact this;intro o1 W g1 f1 l1 o2 V g2 f2 l2 b s1 s2 d h2 b1 b2;have⟨_,_,d,_,_⟩:=Uj d;have⟨_,_,h2,_,_⟩:=Uj h2;exact y.inj _ _ _ _ _ _ _ _ _ _ _ _ _ d h2 b1 b2;intro b i u;refine⟨(y.DD b i u).1,λo c g B L C f l=>?_⟩;have⟨_,_,d,_,_⟩:=Uj f;exact(y.DD b i u).2 _ _ _ _ _ _ d l
 have hs1:Ng ⟨F,s.ent.H,E.n,E.q,E.G,ah,[],.plain⟩ s.ent a w:=by
  have hdn:a.defers=[]:=by have:=D.df;rw[R,N]at this;exact MD this
  refine⟨F,D.hw,(GF U).gn (TA _),(by rw[hdn];exact .none _ _ _),D.sz,λt=>A _ _ (D.tm t),λg=>?_⟩;refine⟨?_,(D.gl g).sz.reb rfl rfl (hG g).1⟩;have:=A _ _ (D.gl g).CV;rwa [(hG g).1]at this
 rw[N];refine wpIn_mono (h F s.ent.H rfl U a w hs1) ?_;rintro e a' w' (⟨s',⟨Y,T⟩,hQ⟩|⟨ch,rfl,hp⟩);rotate_left;exact(hp.no rfl).elim;have j:=T.gz;let Z:={Y with base:=X.base};have J:∀ c b,b<Y.w.heap.size->AH.ok c Y.base b->(AH.bk c).ok Z.base b:=by intro c b _ hok;have hbase:Y.base=X.w.heap.size:=j.le.base;have:=y.bw;cases c;simp only[AH.ok,AH.bk]at hok⊢;show X.base<=b;omega;trivial;trivial
 have I:X.le Z:=⟨j.le.β,j.le.S,j.le.cell,rfl,j.le.blk,j.le.map⟩;have m:∀ b,Wk F s.ent.H b->∃ o c g B L C,s.H o=.cells c g B L/\X.β o g=ae (b,C):=by refine Ue (λo b r f=>(Fr f).elim) ?_;rintro b ⟨o,c,g,B,L,C,f,l⟩;have⟨M,p,d,_,_⟩:=Uj f;exact⟨o,M,g,B,p,C,d,l⟩
 have k:∀ b,Wk F s.ent.H b->Wk X s.H b:=λb h=>.inl (m b h);have hrel:∀ x v,AI Y x v->AI Z x (v.recol AH.bk):=λx v hr=>
  hr.conv (X:=Y) (Y:=Z) AH.bk (λ_ _ h=>h) (λ_ _ _ _ h=>h) ⟨λ_ c _ h=>⟨c,h,rfl⟩,λ_ _ _ _ h=>h⟩ J (.inl λ_ _ _ h=>h)
 have O:BH X s.H Z s'.bk.H:=by
  refine⟨⟨?_,?_,?_,j.BJ.CK,?_,λb i u l=>(by
  rcases j.Sn b i u with d|d|d;rcases y.IM b i d l with ⟨W,t1,h2⟩|⟨rfl,es,n,h2⟩;have⟨V,K,_⟩:=I.blk b W t1 h2;exact .inl ⟨V,t1,K⟩;exact .inr ⟨rfl,es,n,I.map b es n d h2⟩;exact j.BJ.IM b i u (by rw[j.le.base];exact d);have⟨W,t1,h2⟩:=y.live_thaw (m b d);have⟨V,K,_⟩:=I.blk b W t1 h2;exact .inl ⟨V,t1,K⟩),.no λo lo b ks vs f=>gZ f,.no λo b r f=>Fr f⟩,I,j.kp.mono λb _ hl=>k b hl,?_,?_⟩
  intro o c g B L f;obtain⟨M,p,d,rfl,rfl⟩:=Uj f;have⟨b,C,h2,K,c',t,h4,h5,h6⟩:=j.BJ.DQ o M g B p d;refine⟨b,C,h2,J _ _ (j.BJ.lt d h2) K,c',t,h4,by rw[Yl,BC];exact h5,?_⟩;have:=h6.conv (X:=Y) (Y:=Z) AH.bk (λ_ _ h=>h) (λ_ _ _ _ h=>h) ⟨λ_ c _ h=>⟨c,h,rfl⟩,λ_ _ _ _ h=>h⟩ J (λ_ _ _ h=>h);rw[Yl,BC];rw[Yl]at this;exact this;intro o1 W g1 f1 l1 o2 V g2 f2 l2 b s1 s2 d h2 b1 b2;have⟨_,_,d,_,_⟩:=Uj d;have⟨_,_,h2,_,_⟩:=Uj h2;exact j.BJ.inj _ _ _ _ _ _ _ _ _ _ _ _ _ d h2 b1 b2;intro b i u;refine⟨(j.BJ.DD b i u).1,λo c g B L C f l=>?_⟩;have⟨_,_,d,_,_⟩:=Uj f;exact(j.BJ.DD b i u).2 _ _ _ _ _ _ d l;have d:=y.bw;have h2:X.w.heap.size<=Y.w.heap.size:=j.kp.size;show X.base<=Y.w.heap.size;omega;intro b i u;rcases j.Sn b i u with d|d|d;exact .inl d;exact .inr (.inl d);exact .inr (.inr (k b d));refine Ue (λo b r f=>(Fr f).elim) ?_;rintro b ⟨o,c,g,B,L,C,f,l⟩;have⟨M,p,d,_,_⟩:=Uj f;rcases j.on b (.inl ⟨o,M,g,B,p,C,d,l⟩)with q|q;exact .inl q;exact .inr (k b q)
 refine .inl ⟨s'.bk,⟨Z,T.hw,D.on_ O,(by rw[R,MD T.df];exact .none _ _ _),T.sz,λt=>hrel _ _ (T.tm t),λg=>?_⟩,hQ⟩;exact(D.gl g).go y O
inductive V.Old:V->Prop
 |bool (b:Bool):Old (.bool b)
 |int (k:IntKind) (n:Int):Old (.int k n)
 |AB (s:bS):Old (.AB s)
 |ET:Old .ET
 |view (v:V) (h:∀ x∈v.cells,Old x):Old (.view .old v)
 |ptr (o g off:Nat):Old (.ptr o g off)
 |AG:Old .AG
 |slice (clip:Bool) (E:Nat) (l:List V) (h:∀ x∈flat l,Old x):Old (.slice .old clip E l)
 |agg (l:List V) (h:∀ x∈l,Old x):Old (.agg l)
 |tuple (l:List V) (h:∀ x∈l,Old x):Old (.tuple l)
 |iface (t:TypeId) (v:V) (h:Old v):Old (.iface t v)
 |top:Old .top
def Ka{α m f}(d:∀ x,∀ y∈(f x).cells,V.Old y)(s:Sl α):V.Old (Za .old m f s):=by rcases s with _|⟨b,l⟩;exact .AG;refine .slice _ _ _ λx a=>?_;have⟨v,c,a⟩:=YA.1 a;grind
def AI.old{X Y}(u:∀ b i,X.S b i->b<X.base->Y.S b i)(w:∀ o g p,X.β o g=ae p->Y.β o g=ae p)(y:Y.base=X.base)(r:∀ b i x,b<X.base->X.cell b i=ae x->Y.cell b i=ae x){x v}(h:AI X x v)(d:v.Old):AI Y x v:=by
 induction h with
 |top x=>exact .top x|bool b=>exact .bool b|int k n=>exact .int k n|AB s l h=>exact .AB s l h|ET=>exact .ET|view c v b off f hcc hr ih=>cases d with|view _ h=>refine .view _ v b _ f (λi e=>?_) (λi e=>ih i e (h _ (BT e)));have⟨j,h2,q,m⟩:=hcc i e;exact⟨u _ _ j h2,by grind,r _ _ _ h2 q,m⟩
 |ptr o g off b bs h=>exact .ptr o g _ b bs (w _ _ _ h)|AG=>exact .AG|slice0 c clip E a=>exact .slice0 c _ E a|slice c clip E l b off cap f hcap hclip hE hcc hr ih=>cases d with|slice _ _ _ h=>refine .slice _ _ E l b _ _ f hcap hclip hE (λi e=>?_) (λi e=>ih i e (h _ (BT e)));have⟨j,h2,q,m⟩:=hcc i e;exact⟨u _ _ j h2,by rw[y];exact h2,r _ _ _ h2 q,m⟩
 |A_=>cases d|func=>cases d|CN=>cases d|iface t x v h ih=>cases d with|iface _ _ d=>exact .iface t x v (ih d)
 |GE=>cases d|agg xs l hx ho' hr ih=>cases d with|agg _ h=>exact .agg xs l hx ho' λi j h2=>ih i j h2 (h _ (BT h2))
 |tuple xs l hx hr ih=>cases d with|tuple _ h=>exact .tuple xs l hx λi j h2=>ih i j h2 (h _ (BT h2))
 |FE=>cases d|FM=>cases d|DF=>cases d
def SzK.old{X Y g v}(h:SzK X g v)(b:v.Old)(f:Y.base=X.base)(a:∀ k,k<X.base->Y.w.heap[k]?=X.w.heap[k]?):SzK Y g v:=by unfold SzK at h⊢;split;have⟨d,l,t,e,c,h2⟩:=h;cases b;refine⟨by grind,l,t,e,?_,h2⟩;rw[a g d];exact c;simp
end
section
variable{P:Program}
inductive Sh where
 |lit (k:IntKind) (n:Int)
 |int (k:IntKind)
 |AB
 |row (ag:Bool) (E M:Nat) (c:Nat->Sh)
 |F1 (ag hd:Bool) (E N:Nat) (c:Nat->Sh)
 |ptr (ag hd:Bool) (E:Nat) (c:Nat->Sh)
 |agg (E:Nat) (c:Nat->Sh)
def HN(w:World)(b:Nat):Prop:=∃ c t,w.heap[b]?=ae (Obj.cells c t (0,0))
def MP(B C:Nat)(hd:Bool)(b:Nat):Prop:=if hd then C<=b else B<=b/\b<C
def Kd(w:World)(B C:Nat):Sh->Value->Prop
 |.lit k n,x=>x=.int k n|.int k,x=>∃ n,x=.int k n|.AB,x=>∃ s,x=.string s
 |.row _ E M c,x=>x=.slice ah 0 0\/(∃ a,x=.slice (ae a) 0 0)\/∃ b off len cap,x=.slice (ae ⟨b,off,ah⟩) len cap/\len<=cap/\len<=M /\
   ∀ j i,j<len->i<E->MP B C ab b/\HN w b/\∃ y,w.cell? ⟨b,off+(j*E+i),ah⟩=ae y/\y.oneCell'=ad/\Kd w B C (c i) y
 |.F1 _ hd E M c,x=>(x=.slice ah 0 0/\M=0)\/(∃ a,x=.slice (ae a) 0 0/\M=0)\/∃ b off len cap,x=.slice (ae ⟨b,off,ah⟩) len cap/\len<=cap/\len=M /\
   ∀ j i,j<len->i<E->MP B C hd b/\HN w b/\∃ y,w.cell? ⟨b,off+(j*E+i),ah⟩=ae y/\y.oneCell'=ad/\Kd w B C (c i) y
 |.ptr _ hd E c,x=>∃ b off,x=.pointer (ae ⟨b,off,ah⟩)/\∀ i,i<E->MP B C hd b/\HN w b/\∃ y,w.cell? ⟨b,off+i,ah⟩=ae y/\y.oneCell'=ad/\Kd w B C (c i) y|.agg E c,x=>∃ l,x=.agg l/\l.size=E/\∀ i h,l[i].oneCell'=ad/\Kd w B C (c i) l[i]
def L8(ag:Bool)(l:List V):V:=if ag then .agg l else match l with|[v]=>v|l=>.agg l
def zc(cs ch:AH)(hd:Bool):AH:=if hd then ch else cs
def Gq(cs ch:AH):Sh->V->Prop
 |.lit k n,v=>v=.int k n|.int k,v=>∃ n,v=.int k n|.AB,v=>∃ s,v=.AB s|.row ag E M c,v=>v=.AG\/∃ clip l,v=.slice cs clip E l/\aa l<=M/\∀ u∈l,aa u.cells=E/\u=L8 ag u.cells/\∀ i h,Gq cs ch (c i) u.cells[i]|.F1 ag hd E M c,v=>(v=.AG/\M=0)\/∃ clip l,v=.slice (zc cs ch hd) clip E l/\aa l=M/\∀ u∈l,aa u.cells=E/\u=L8 ag u.cells/\∀ i h,Gq cs ch (c i) u.cells[i]|.ptr ag hd E c,v=>∃ u,v=.view (zc cs ch hd) u/\aa u.cells=E/\u=L8 ag u.cells/\∀ i h,Gq cs ch (c i) u.cells[i]|.agg E c,v=>∃ l,v=.agg l/\aa l=E/\∀ i h,Gq cs ch (c i) l[i]
def Sh.HK:Sh->Prop
 |.lit _ _=>False|.int _=>True|.AB=>True|.row _ E _ c=>∀ i,i<E->(c i).HK|.F1 _ _ _ _ _=>False|.ptr _ hd E c=>hd=ab/\∀ i,i<E->(c i).HK|.agg E c=>∀ i,i<E->(c i).HK
def Ql{X B C cs ch}(g:∀ b i x,X.S b i->cs.ok X.base b->X.cell b i=ae x->(B<=b/\b<C)/\HN X.w b):∀ {s} {x} {v} (hha:(∀ b i x,X.S b i->ch.ok X.base b->X.cell b i=ae x->C<=b/\HN X.w b)\/s.HK),AI X x v->Gq cs ch s v->Kd X.w B C s x
 |.lit k n,x,v,_,h,d=>by simp only[Gq]at d;subst d;exact h.int_inv|.int k,x,v,_,h,d=>by obtain⟨n,rfl⟩:=d;exact⟨n,h.int_inv⟩
 |.AB,x,v,_,h,d=>by obtain⟨n,rfl⟩:=d;have⟨s,d,_⟩:=h.str_inv;exact⟨s,d⟩
 |.row ag E M c,x,v,hha,h,d=>by
  rcases d with rfl|⟨I,l,rfl,J,y⟩;cases h;exact .inl rfl
  .cases h with
   |slice0 _ _ _ a=>exact .inr (.inl ⟨a,rfl⟩)|slice _ _ _ _ b off cap f hcap hclip D hc hr=>
    refine .inr (.inr ⟨b,off,aa l,cap,rfl,hcap,J,λj i z r=>?_⟩);have m:j*E+i<aa (flat l):=by
     rw[V2 D]
     calc j*E+i<j*E+E:=zo
      _=(j+1)*E:=by rw[QP]
      _<=aa l*E:=O' E z
    have⟨F,h2,p,H⟩:=hc _ m;have⟨L,K,t⟩:=y _ (BT z);have e:=Mh D j i z r;rw[AY m,AY zo]at e;have o:=hr _ m;rw[EY e]at o;have⟨O,N⟩:=g _ _ _ F h2 p;exact⟨O,N,_,p,H,Ql g (hha.imp id λG=>G i r) o (t i zo)⟩
 |.F1 ag hd E M c,x,v,hha,h,d=>by
  rcases d with ⟨rfl,P⟩|⟨I,l,rfl,J,y⟩;cases h;exact .inl ⟨rfl,P⟩
  .have hh2:=hha.resolve_right id;cases h with
   |slice0 _ _ _ a=>exact .inr (.inl ⟨a,rfl,J.symm⟩)|slice _ _ _ _ b off cap f hcap hclip D hc hr=>
    refine .inr (.inr ⟨b,off,aa l,cap,rfl,hcap,J,λj i z r=>?_⟩);have m:j*E+i<aa (flat l):=by
     rw[V2 D]
     calc j*E+i<j*E+E:=zo
      _=(j+1)*E:=by rw[QP]
      _<=aa l*E:=O' E z
    have⟨F,h2,p,H⟩:=hc _ m;have⟨L,K,t⟩:=y _ (BT z);have e:=Mh D j i z r;rw[AY m,AY zo]at e;have o:=hr _ m;rw[EY e]at o;have q:MP B C hd b/\HN X.w b:=by cases hd with|false=>exact g _ _ _ F h2 p|true=>exact hh2 _ _ _ F h2 p
    exact⟨q.1,q.2,_,p,H,Ql g (.inl hh2) o (t i zo)⟩
 |.ptr ag hd E c,x,v,hha,h,d=>by
  obtain⟨u,rfl,D,_,y⟩:=d;cases h with
  |view _ _ b off f hc hr=>
   refine⟨b,off,rfl,λi r=>?_⟩;have A:i<aa u.cells:=zo;have⟨F,h2,p,H⟩:=hc i A;have q:MP B C hd b/\HN X.w b:=by cases hd with|false=>exact g _ _ _ F h2 p|true=>rcases hha with hha|hha;exact hha _ _ _ F h2 p;exact absurd hha.1 zS
   exact⟨q.1,q.2,_,p,H,Ql g (hha.imp id λG=>G.2 i r) (hr i A) (y i A)⟩
 |.agg E c,x,v,hha,h,d=>by obtain⟨l,rfl,D,y⟩:=d;cases h with|agg xs _ hx ho hr=>exact⟨xs,rfl,zo,λi r=>⟨ho _ (MB r),Ql g (hha.imp id λG=>G i zo) (hr i r zo) (y i zo)⟩⟩
def Xk(w:World)(B C:Nat):Cx:={β:=λ_ _=>ah,S:=λb i=>HN w b/\B<=b/\∃ x,w.cell? ⟨b,i,ah⟩=ae x,base:=C,w:=w}
def Xk.BJ{w B C}(h:C<=w.heap.size):BZ (Xk w B C) Zm:=by refine⟨λo c g f j a=>by simp[Zm]at a,λp E y A t n D v z s b m l a=>by simp[Zm]at a,?_,λo=>⟨0,λ_ _=>rfl⟩,h,λb i e _=>.inl e.1,.no (λo q b u k a=>by simp[Zm]at a),.no λo b r a=>by simp[Zm]at a⟩;rintro b i ⟨_,_,x,d⟩;exact⟨aG _ _ d,λo c g f j F a=>by simp[Zm]at a⟩
def iv{ag l}(h:∀ v∈l,v.cells=[v]):(L8 ag l).cells=l:=by unfold L8;split;rfl;split;grind;rfl
def u_{B C}(a:B<=C){hd b}(h:MP B C hd b):(zc .old .new hd).ok C b/\B<=b:=by cases hd;exact⟨h.2,h.1⟩;exact⟨h,CT a h⟩
def fX{X}{w:World}{E}{g:Nat->Addr}{R:Nat->V->Prop}(h:∀ i,i<E->∃ y v,w.cell? (g i)=ae y/\y.oneCell'=ad/\AI (X) y v/\R i v):∃ (l:List V) (f:Nat->Value),l.length=E/\(∀ v∈l,v.cells=[v])/\(∀ i,i<E->w.cell? (g i)=ae (f i)/\(f i).oneCell'=ad)/\∀ i hi,AI (X) (f i) l[i]/\R i l[i]:=by
 have c:∀ i,∃ y v,i<E->w.cell? (g i)=ae y/\y.oneCell'=ad/\AI (X) y v/\R i v:=by intro i;by_cases hi:i<E;grind;exact⟨undef,.top,λo=>absurd o hi⟩
 let d:=λi=>aF (c i);have a:=λi=>S_ (c i);let e:=λi=>aF (a i);have b:∀ i,i<E->w.cell? _=ae (d i)/\(d i).oneCell'=ad/\AI _ (d i) (e i)/\R i (e i):=λi=>S_ (a i);refine⟨(aE E).map e,d,zS,?_,λi hi=>⟨(b i hi).1,(b i hi).2.1⟩,λi hi=>?_⟩;intro v m;obtain⟨i,hi,rfl⟩:=CY.1 m;have⟨_,k,j,_⟩:=b i (DC.1 hi);exact j.cells1 k;have n:i<E:=by simp_all
 simp_all
structure SV(X:Cx)(w:World)(B C:Nat)(cs ch:AH):Prop where
 hw:X.w=w
 S:∀ hd b i x,MP B C hd b->HN w b->w.cell? ⟨b,i,ah⟩=ae x->X.S b i/\(zc cs ch hd).ok X.base b
def cq{X w B C cs ch}(I:SV X w B C cs ch){hd ag E b off len cap}{R:Nat->V->Prop}(H:len<=cap)(h:∀ j i,j<len->i<E->MP B C hd b/\HN w b/\∃ y v,w.cell? ⟨b,off+(j*E+i),ah⟩=ae y/\y.oneCell'=ad/\AI (X) y v/\R i v):∃ l,l.length=len/\AI (X) (.slice (ae ⟨b,off,ah⟩) len cap) (.slice (zc cs ch hd) ab E l)/\∀ u∈l,u.cells.length=E/\u=L8 ag u.cells/\∀ i h,R i u.cells[i]:=by
 have r:∀ j,∃ (m:List V) (f:Nat->Value),j<len->aa m=E/\(∀ v∈m,v.cells=[v])/\(∀ i,i<E->w.cell? ⟨b,off+(j*E+i),ah⟩=ae (f i)/\(f i).oneCell'=ad)/\∀ i (k),AI (X) (f i) m[i]/\R i m[i]:=by intro j;by_cases d:j<len;have⟨l,f,U⟩:=fX λi k=>(h j i d k).2.2;exact⟨l,f,λ_=>U⟩;exact⟨[],λ_=>undef,λT=>absurd T d⟩
 let t:=λj=>aF (r j);have n:=λj=>S_ (r j);let Y:=λj=>aF (n j);have c:=λj=>S_ (n j);let l:=(aE len).map λj=>L8 ag (t j);have g:aa l=len:=by simp[l]
 have a:∀ j,j<len->(L8 ag _).cells=t j:=λj d=>iv (c j d).2.1;have D:∀ v∈l,aa v.cells=E:=by intro v P;obtain⟨j,d,rfl⟩:=CY.1 P;rw[a j (DC.1 d)];exact(c j (DC.1 d)).1
 have A:aa (flat l)=len*E:=by rw[V2 D,g]
 have o:∀ i,i<len*E->0<E/\i/E<len/\i%E<E/\i/E*E+i%E=i:=by
  intro i k;have s:0<E:=by rcases MI E with F|F;rw[F,Nat.mul_zero]at k;omega;exact F
  exact⟨s,Nat.div_lt_of_lt_mul (by rw[TP];exact k),Nat.mod_lt _ s,by rw[TP];exact Nat.div_add_mod i E⟩
 refine⟨l,g,?_,?_⟩
 .have:=AI.slice _ ab E l b _ cap _ zo zS D (λi k=>by
   have⟨O,p,q,z⟩:=o i zo;have⟨x,N⟩:=(c _ p).2.2.1 _ q;have⟨M,L,_⟩:=h _ _ p q;rw[z]at x;have⟨K,J⟩:=I.S _ _ _ _ M L x;exact⟨K,J,by show X.w.cell? _=_;rw[I.hw];exact x,N⟩) (λi k=>by
   have⟨O,p,q,z⟩:=o i zo;have G:i%E<aa (t (i/E)):=by rw[(c _ p).1];exact q
   have e:=Mh D (i/E) _ zo q;rw[z,AY k]at e;have W:l[i/E]'zo=L8 ag (t (i/E)):=by simp[l]
   rw[W,a _ p,AY G]at e;rw[EY e];exact((c _ p).2.2.2 _ G).1)
  rw[g]at this;exact this
 intro u Q;obtain⟨j,d,rfl⟩:=CY.1 Q;have d:=DC.1 d;rw[a j d];exact⟨(c j d).1,rfl,λi k=>((c j d).2.2.2 i k).2⟩
def P7{X w B C cs ch}(e:SV X w B C cs ch):∀ {s} {x},Kd w B C s x->∃ v,AI (X) x v/\Gq cs ch s v
 |.lit k n,x,h=>by simp only[Kd]at h;subst h;exact⟨_,.int _ _,rfl⟩|.int k,x,h=>by obtain⟨n,rfl⟩:=h;exact⟨_,.int _ _,n,rfl⟩
 |.AB,x,h=>by obtain⟨n,rfl⟩:=h;exact⟨_,.AB _ _ rfl,_,rfl⟩
 |.row ag E M c,x,h=>by
  rcases h with rfl|⟨a,rfl⟩|⟨b,g,len,O,rfl,m,h2,p⟩;exact⟨_,.AG,.inl rfl⟩;exact⟨_,.slice0 cs ab E a,.inr ⟨_,_,rfl,zS,zS⟩⟩;obtain⟨l,hl,K,o⟩:=cq e m (λj i L d=>by obtain⟨J,I,y,z,u,t⟩:=p j i L d;obtain⟨v,r,q⟩:=P7 e t;exact⟨J,I,y,v,z,u,r,q⟩)
  exact⟨_,K,.inr ⟨_,l,rfl,zo,o⟩⟩
 |.F1 ag hd E M c,x,h=>by
  rcases h with ⟨rfl,N⟩|⟨a,rfl,N⟩|⟨b,g,len,O,rfl,m,h2,p⟩;exact⟨_,.AG,.inl ⟨rfl,N⟩⟩;exact⟨_,.slice0 _ ab E a,.inr ⟨_,_,rfl,by simp[N],zS⟩⟩;obtain⟨l,hl,K,o⟩:=cq e m (λj i L d=>by obtain⟨J,I,y,z,u,t⟩:=p j i L d;obtain⟨v,r,q⟩:=P7 e t;exact⟨J,I,y,v,z,u,r,q⟩)
  exact⟨_,K,.inr ⟨_,l,rfl,zo,o⟩⟩
 |.ptr ag hd E c,x,h=>by
  obtain⟨b,g,rfl,p⟩:=h;obtain⟨l,f,m,h2,h4,Q⟩:=fX (λi d=>by obtain⟨J,I,y,z,u,t⟩:=p i d;obtain⟨v,r,q⟩:=P7 e t;exact⟨y,v,z,u,r,q⟩)
  have G:=iv (ag:=ag) h2;refine⟨.view _ _,.view _ _ b g f (λi d=>?_) (λi d=>?_),_,rfl,by rw[G];exact m,by rw[G],λi d=>?_⟩;have D:i<E:=by rw[G]at d;omega
  obtain⟨P,W⟩:=h4 i D;obtain⟨V,U,_⟩:=p i D;obtain⟨T,R⟩:=e.S _ _ _ _ V U P;exact⟨T,R,by show X.w.cell? _=_;rw[e.hw];exact P,W⟩;simp only[G]at d⊢;exact(Q i d).1;simp only[G]at d⊢;exact(Q i d).2
 |.agg E c,x,h=>by
  obtain⟨l,rfl,hE,o⟩:=h;have A:∀ i,∃ v,∀ h,AI (X) l[i] v/\Gq cs ch (c i) v:=by intro i;by_cases d:i<l.size;obtain⟨v,h7,h8⟩:=P7 e (o i d).2;exact⟨v,λ_=>⟨h7,h8⟩⟩;exact⟨.top,λhh=>absurd hh d⟩
  let H:=λi=>aF (A i);have F:=λi=>S_ (A i);refine⟨.agg ((aE E).map H),.agg _ _ (by simp[hE]) (λx Y=>?_) (λi m h2=>?_),_,rfl,zS,λi h=>?_⟩;obtain⟨i,d,rfl⟩:=Array.getElem_of_mem Y;exact(o i d).1;have:((aE E).map H)[i]=H i:=zS;rw[this];exact(F i m).1;have:((aE E).map H)[i]=H i:=zS;rw[this];exact(F i (by simp at h;omega)).2
def Xk.all{w B C}(a:B<=C):SV (Xk w B C) w B C .old .new:=
 ⟨rfl,λ_ b i x e g f=>by have⟨d,c⟩:=u_ a e;exact⟨⟨g,c,_,f⟩,d⟩⟩
inductive IN:Value->Value->Prop
 |refl (x:Value):IN x x
 |int (k:IntKind) (m n:Int):IN (.int k m) (.int k n)
 |AB (s t:ByteArray):IN (.string s) (.string t)
 |nil (a:Option Addr) (l c:Nat):IN (.slice a l c) (.slice ah 0 0)
def IN.trans{x y z}(h:IN x y)(k:IN y z):IN x z:=by
 cases h with
 |refl=>exact k|int kk m n=>cases k with|refl=>exact .int _ _ _|int=>exact .int _ _ _
 |AB s t=>cases k with|refl=>exact .AB _ _|AB=>exact .AB _ _
 |nil a l c=>cases k with|refl=>exact .nil _ _ _|nil=>exact .nil _ _ _
def IN.one{x y}(h:IN x y)(a:x.oneCell'=ad):y.oneCell'=ad:=by cases h<;>first|grind|rfl
structure KP(B C:Nat)(w w':World):Prop where
 os:w'.os=w.os
 tape:w'.tape=w.tape
 output:w'.output=w.output
 size:w.heap.size<=w'.heap.size
 old:∀ k,k<w.heap.size->k<B\/C<=k->w'.heap[k]?=w.heap[k]?
 blk:∀ b,HN w b->HN w' b
 cell:∀ b i x,w.cell? ⟨b,i,ah⟩=ae x->HN w b->∃ y,w'.cell? ⟨b,i,ah⟩=ae y/\IN x y
def KP.refl(B C w):KP B C w w:=⟨rfl,rfl,rfl,BO _,λ_ _ _=>rfl,λ_ h=>h,λ_ _ x h _=>⟨x,h,.refl x⟩⟩
def KP.trans{B C w w' w''}(h:KP B C w w')(k:KP B C w' w''):KP B C w w'' where
 os:=k.os.trans h.os
 tape:=k.tape.trans h.tape
 output:=k.output.trans h.output
 size:=CT h.size k.size
 old:=λb a c=>(k.old b (GU a h.size) c).trans (h.old b a c)
 blk:=λb a=>k.blk b (h.blk b a)
 cell:=λb i x d a=>by have⟨y,g,h2⟩:=h.cell b i x d a;have⟨z,f,e⟩:=k.cell b i y g (h.blk b a);exact⟨z,f,h2.trans e⟩
def KP.hard{B C w w'}(h:KP B C w w'){b i x}(c:C<=b)(a:w.cell? ⟨b,i,ah⟩=ae x):w'.cell? ⟨b,i,ah⟩=ae x:=by rw[aH (h.old b (aG _ _ a) (.inr c))];exact a
def Oj{w w' B C}(h:KP B C w w'):∀ {s} {x y},s.HK->IN x y->Kd w B C s x->Kd w' B C s y
 |.lit k n,x,y,hf,ha,hk=>hf.elim|.int k,x,y,hf,ha,hk=>by obtain⟨n,rfl⟩:=hk;cases ha with|refl=>exact⟨n,rfl⟩|int _ _ m=>exact⟨m,rfl⟩
 |.AB,x,y,hf,ha,hk=>by obtain⟨n,rfl⟩:=hk;cases ha with|refl=>exact⟨n,rfl⟩|AB _ m=>exact⟨m,rfl⟩
 |.row ag E M c,x,y,hf,ha,hk=>by
  rcases hk with rfl|⟨a,rfl⟩|⟨b,e,len,v,rfl,G,h2,u⟩
  .cases ha with|refl=>exact .inl rfl|nil=>exact .inl rfl
  .cases ha with|refl=>exact .inr (.inl ⟨a,rfl⟩)|nil=>exact .inl rfl
  .cases ha with|nil=>exact .inl rfl|refl=>refine .inr (.inr ⟨b,e,len,v,rfl,G,h2,λj i D d=>?_⟩);have⟨t,g,y,r,q,p⟩:=u j i D d;have⟨z,o,f⟩:=h.cell _ _ _ r g;exact⟨t,h.blk _ g,z,o,f.one q,Oj h (hf i d) f p⟩
 |.F1 ag hd E M c,x,y,hf,ha,hk=>hf.elim|.ptr ag hd E c,x,y,hf,ha,hk=>by obtain⟨b,e,rfl,u⟩:=hk;cases ha with|refl=>refine⟨b,e,rfl,λi d=>?_⟩;have⟨t,g,y,r,q,p⟩:=u i d;have⟨z,o,f⟩:=h.cell _ _ _ r g;exact⟨t,h.blk _ g,z,o,f.one q,Oj h (hf.2 i d) f p⟩
 |.agg E c,x,y,hf,ha,hk=>by obtain⟨l,rfl,F,A⟩:=hk;cases ha with|refl=>exact⟨l,rfl,F,λi d=>⟨(A i d).1,Oj h (hf i zo) (.refl _) (A i d).2⟩⟩
def Sh.freeT:Sh->Prop
 |.lit _ _=>True|.int _=>True|.AB=>True|.row _ E _ c=>∀ i,i<E->(c i).HK|.F1 _ hd E _ c=>if hd then ∀ i,i<E->(c i).freeT else ∀ i,i<E->(c i).HK|.ptr _ hd E c=>if hd then ∀ i,i<E->(c i).freeT else ∀ i,i<E->(c i).HK|.agg E c=>∀ i,i<E->(c i).freeT
def Ap{w w' B C}(h:KP B C w w'):∀ {s} {x},s.freeT->Kd w B C s x->Kd w' B C s x
 |.lit k n,x,_,hk=>hk|.int k,x,_,hk=>hk|.AB,x,_,hk=>hk|.row ag E M c,x,hf,hk=>Oj h hf (.refl x) hk|.F1 ag hd E M c,x,hf,hk=>by
  rcases hk with ⟨rfl,u⟩|⟨a,rfl,u⟩|⟨b,g,len,v,rfl,G,h2,t⟩;exact .inl ⟨rfl,u⟩;exact .inr (.inl ⟨a,rfl,u⟩)
  .refine .inr (.inr ⟨b,g,len,v,rfl,G,h2,λj i D d=>?_⟩);have⟨f,e,y,q,p,o⟩:=t j i D d;cases hd;have⟨z,r,m⟩:=h.cell _ _ _ q e;exact⟨f,h.blk _ e,z,r,m.one p,Oj h (hf i d) m o⟩;exact⟨f,h.blk _ e,y,h.hard f q,p,Ap h (hf i d) o⟩
 |.ptr ag hd E c,x,hf,hk=>by obtain⟨b,g,rfl,t⟩:=hk;refine⟨b,g,rfl,λi d=>?_⟩;have⟨f,e,y,q,p,o⟩:=t i d;cases hd;have⟨z,r,m⟩:=h.cell _ _ _ q e;exact⟨f,h.blk _ e,z,r,m.one p,Oj h (hf i d) m o⟩;exact⟨f,h.blk _ e,y,h.hard f q,p,Ap h (hf i d) o⟩
 |.agg E c,x,hf,hk=>by obtain⟨l,rfl,F,A⟩:=hk;exact⟨l,rfl,F,λi d=>⟨(A i d).1,Ap h (hf i zo) (A i d).2⟩⟩
def iV{w B C Y H'}(h:BH (Xk w B C) Zm Y H'):KP B C w Y.w:=by have a:∀ k,k<w.heap.size->Y.w.heap[k]?=w.heap[k]? := λk d=>h.kp.block k d (F0 k);refine⟨h.kp.os,h.kp.tape,h.kp.output,h.kp.size,λk d _=>a k d,?_,?_⟩;rintro b ⟨c,t,f⟩;have:b<w.heap.size:=zG;exact⟨c,t,by grind⟩;intro b i x e _;have:=aG _ _ e;exact⟨x,by rw[aH (a b this)];exact e,.refl x⟩
def kF{w B C}(g:C<=w.heap.size){Y H'}(h:BH (Xk w B C) Zm Y H'):∀ b i x,Y.S b i->Y.cell b i=ae x->(b<C->B<=b)/\HN Y.w b:=by intro b i x c f;rcases h.Sn b i c with a|a|a;have⟨e,d,_⟩:=a;exact⟨λ_=>d,(iV h).blk b e⟩;have a:w.heap.size<=b:=a;exact⟨λj=>zo,h.BJ.thawC c (by rw[h.le.base];exact CT g a) f⟩;exact(F0 _ a).elim
def Aq{w B C C'}(h:C<=C'):∀ {s} {x},s.HK->Kd w B C s x->Kd w B C' s x
 |.lit _ _,_,d,_=>d.elim|.int _,_,_,hk=>hk|.AB,_,_,hk=>hk|.row ag E M c,x,d,hk=>by rcases hk with rfl|⟨a,rfl⟩|⟨b,f,len,q,rfl,v,h2,p⟩;exact .inl rfl;exact .inr (.inl ⟨a,rfl⟩);refine .inr (.inr ⟨b,f,len,q,rfl,v,h2,λj i t e=>?_⟩);have⟨g,o,y,n,m,k⟩:=p j i t e;exact⟨⟨g.1,GU g.2 h⟩,o,y,n,m,Aq h (d i e) k⟩
 |.F1 _ _ _ _ _,_,d,_=>d.elim|.ptr ag hd E c,x,d,hk=>by obtain⟨rfl,d⟩:=d;obtain⟨b,f,rfl,p⟩:=hk;refine⟨b,f,rfl,λi e=>?_⟩;have⟨g,o,y,n,m,k⟩:=p i e;exact⟨⟨g.1,GU g.2 h⟩,o,y,n,m,Aq h (d i e) k⟩
 |.agg E c,x,d,hk=>by obtain⟨l,rfl,u,r⟩:=hk;exact⟨l,rfl,u,λi e=>⟨(r i e).1,Aq h (d i zo) (r i e).2⟩⟩
def sF{w B C b off c1 t}(g:w.heap[b]?=ae (Obj.cells c1 t (0,0)))(s:B<=b)(r:b<C){vs}(m:off+vs.length<=c1.size)(ha:∀ i (h:i<vs.length),IN (c1[off+i]'zo) vs[i]):KP B C w (w.setRow b (c1.toList.take off++vs++c1.toList.drop (off+vs.length)).toArray):=by
 have o:b<w.heap.size:=by rw[DB]at g;exact g.1
 have j:=setRow_heap w b c1 (c1.toList.take off++vs++c1.toList.drop (off+aa vs)).toArray t _ g;have d:∀ k,k≠b->(w.setRow b (c1.toList.take off++vs++c1.toList.drop (off+aa vs)).toArray).heap[k]?=w.heap[k]? := by intro k f;simp only[World.setRow];rw[lN,AA (FS f)]
 refine⟨rfl,rfl,rfl,by simp[World.setRow],λk _ f=>d k zo,?_,?_⟩;rintro k ⟨c,n,f⟩;by_cases e:k=b;subst e;exact⟨_,_,j⟩;exact⟨c,n,by rw[d k e];exact f⟩;intro k i x a _;by_cases e:k=b;subst e;rw[Lw g]at a;rw[Lw j];have⟨l,a⟩:=DB.1 a;by_cases p:i<off;refine⟨x,?_,.refl x⟩;rw[LH,DH,KJ zO,QH p];simp[l,a];by_cases h2:i<off+aa vs;refine⟨vs[i-off]'zo,?_,?_⟩;rw[LH,DH,JS zO,KJ zO];have:i-aa (c1.toList.take off)=i-off:=zO;rw[this];simp;have:=ha (i-off) zo;have q:off+(i-off)=i:=zo;simp only[q]at this;rwa [a]at this;refine⟨x,?_,.refl x⟩;rw[LH,JS zO,QG];have:off+aa vs+(i-aa (c1.toList.take off++vs))=i:=zO;rw[this];simp[l,a];refine⟨x,?_,.refl x⟩;rw[aH (d k e)];exact a
