/- A part. No condition. -/
import Derived.Test.YtkennpiglkfalaaGreatDoorP10
set_option linter.all false
open Bool renaming false->ab
open Option renaming some->ae
namespace Go.Hs
section
variable{P:Program}{E:BX}{s:AS}{a:Act}{w:World}
mutual
def V.recol(f:AH->AH):V->V
 |.view c v=>.view (f c) (v.recol f)|.slice c clip E l=>.slice (f c) clip E (Xd f l)|.func fn xs ys=>.func fn (Xd f xs) (Xd f ys)|.iface t v=>.iface t (v.recol f)|.agg l=>.agg (Xd f l)|.tuple l=>.tuple (Xd f l)|.top=>.top|.bool b=>.bool b|.int k n=>.int k n|.AB s=>.AB s|.ET=>.ET|.ptr o g off=>.ptr o g off|.AG=>.AG|.A_ o g off len E=>.A_ o g off len E|.CN=>.CN|.GE=>.GE|.FE=>.FE|.FM ks vs=>.FM (Xd f ks) (Xd f vs)|.DF o b=>.DF o b
def Xd(f:AH->AH):List V->List V
 |[]=>[]|v::r=>v.recol f::Xd f r
end
def Yl(f):∀ l,Xd f l=l.map (V.recol f)
 |[]=>rfl|v::r=>by simp[Xd,Yl f r]
def Um(f)(v:V):(v.recol f).cells=v.cells.map (V.recol f):=by cases v<;>simp[V.recol,V.cells,Yl]
def Qq(f l):flat (l.map (V.recol f))=(flat l).map (V.recol f):=by
 unfold flat
 induction l with|nil=>rfl|cons v r ih=>simp[Um,ih]
inductive V.Im:V->Prop
 |bool (b:Bool):Im (.bool b)
 |int (k:IntKind) (n:Int):Im (.int k n)
 |AB (s:bS):Im (.AB s)
 |ET:Im .ET
 |view (c:AH) (v:V) (h:∀ x∈v.cells,Im x):Im (.view c v)
 |AG:Im .AG
 |slice (c:AH) (clip:Bool) (E:Nat) (l:List V) (h:∀ x∈flat l,Im x):Im (.slice c clip E l)
 |func (fn:Fn) (xs ys:List V) (hx:∀ x∈xs,Im x) (hy:∀ x∈ys,Im x):Im (.func fn xs ys)
 |CN:Im .CN
 |iface (t:TypeId) (v:V) (h:Im v):Im (.iface t v)
 |GE:Im .GE
 |agg (l:List V) (h:∀ x∈l,Im x):Im (.agg l)
 |tuple (l:List V) (h:∀ x∈l,Im x):Im (.tuple l)
 |FE:Im .FE
 |FM (ks vs:List V) (hk:∀ x∈ks,Im x) (hv:∀ x∈vs,Im x):Im (.FM ks vs)
 |top:Im .top
def AI.conv{X Y}(f)(F:∀ b i,X.S b i->Y.S b i)(q:∀ b i x,X.S b i->X.cell b i=ae x->Y.cell b i=ae x)(r:(∀ (b:Nat) c t,X.w.heap[b]?=ae (Obj.cells c t (0,0))->∃ c',Y.w.heap[b]?=ae (Obj.cells c' t (0,0))/\c'.size=c.size)/\∀ b es n,X.S b 0->X.w.heap[b]?=ae (Obj.map es n)->Y.w.heap[b]?=ae (Obj.map es n))(H:∀ c b,b<X.w.heap.size->c.ok X.base b->(f c).ok Y.base b){x v}(h:AI X x v)(e:(∀ o g p,X.β o g=ae p->Y.β o g=ae p)\/v.Im):AI Y x (v.recol f):=by
 have lt:∀ {b i} {x},X.cell b i=ae x->b<X.w.heap.size:=λy=>World.block_lt_of_cell? _ _ y
 induction h with
 |top x=>exact .top x|bool b=>exact .bool b|int k n=>exact .int k n|AB s l h=>exact .AB s l h|ET=>exact .ET|view c v b off fn y hr ih=>
  simp only[V.recol];refine .view _ _ b _ fn (λi m=>?_) (λi m=>?_);rw[Um,BC]at m;obtain⟨j,h2,A,G⟩:=y i m;exact⟨F _ _ j,H _ _ (lt A) h2,q _ _ _ j A,G⟩
  .simp only[Um,FG];rw[Um,BC]at m;refine ih i m (e.imp id λd=>?_);cases d with|view _ _ h=>exact h _ (BT _)
 |ptr o g off b bs h=>rcases e with e|e;exact .ptr o g _ b bs (e _ _ _ h);cases e
 |AG=>exact .AG|slice c clip E l b off cap fn hcap hclip hE y hr ih=>
  simp only[V.recol,Yl];have:=AI.slice _ _ E (l.map (V.recol f)) b _ _ fn (zu hcap) (zu hclip)
   (by intro v B;simp only[CY]at B;obtain⟨u,I,rfl⟩:=B;rw[Um,BC];exact hE u I)
   (λi m=>by rw[Qq,BC]at m;obtain⟨j,h2,A,G⟩:=y i m;exact⟨F _ _ j,H _ _ (lt A) h2,q _ _ _ j A,G⟩)
   (λi m=>by simp only[Qq,FG];rw[Qq,BC]at m;refine ih i m (e.imp id λd=>?_);cases d with|slice _ _ _ _ h=>exact h _ (BT _))
  simpa using this
 |slice0 c clip E a=>exact .slice0 _ _ E a|A_ o g off len E b bs cap h hcap z=>rcases e with e|e;obtain⟨c,t,z,C⟩:=z;obtain⟨c',D,J⟩:=r.1 _ _ _ z;exact .A_ o g _ _ E b bs _ (e _ _ _ h) hcap ⟨c',t,D,zo⟩;cases e
 |func fn xs ys ls ms hx hy hxr hyr ihx ihy=>
  simp only[V.recol,Yl];refine .func fn xs ys _ _ (zu hx) (zu hy) (λi j h2=>?_) (λi j h2=>?_)
  .simp only[FG];refine ihx i j (zu h2) (e.imp id λd=>?_);cases d with|func _ _ _ h _=>exact h _ (BT _)
  .simp only[FG];refine ihy i j (zu h2) (e.imp id λd=>?_);cases d with|func _ _ _ _ h=>exact h _ (BT _)
 |CN=>exact .CN|iface t x v h ih=>refine .iface t x _ (ih (e.imp id λd=>?_));cases d with|iface _ _ h=>exact h
 |GE=>exact .GE|agg xs l hx ho hr ih=>simp only[V.recol,Yl];refine .agg xs _ (zu hx) ho (λi j h2=>?_);simp only[FG];refine ih i j (zu h2) (e.imp id λd=>?_);cases d with|agg _ h=>exact h _ (BT _)
 |tuple xs l hx hr ih=>simp only[V.recol,Yl];refine .tuple xs _ (zu hx) (λi j h2=>?_);simp only[FG];refine ih i j (zu h2) (e.imp id λd=>?_);cases d with|tuple _ h=>exact h _ (BT _)
 |FE=>exact .FE|DF o b=>exact .DF o b|FM b n es ks vs C z hk B hkr hvr ihk ihv=>
  simp only[V.recol,Yl];refine .FM b n es _ _ (F _ _ C) (r.2 _ _ _ C z) (zu hk) (zu B) (λi j h2=>?_) (λi j h2=>?_)
  .simp only[FG];refine ihk i j (zu h2) (e.imp id λd=>?_);cases d with|FM _ _ h _=>exact h _ (BT _)
  .simp only[FG];refine ihv i j (zu h2) (e.imp id λd=>?_);cases d with|FM _ _ _ h=>exact h _ (BT _)
def AH.ent:AH->AH
 |.new=>.old|.old=>.old|.any=>.any
def AH.bk:AH->AH
 |.new=>.new|.old=>.any|.any=>.any
def BL.rec2(fc fv:AH->AH):BL->BL
 |.AR=>.AR|.cells c g fz cs=>.cells (fc c) g fz (Xd fv cs)|.mp ..=>.AR|.lp ..=>.AR
def Y'{fc fv}{ob:BL}{b r}(h:ob.rec2 fc fv=.lp b r):False:=by cases ob<;>simp[BL.rec2]at h
def BL.recol(f:AH->AH):BL->BL
 |.AR=>.AR|.cells c g fz cs=>.cells (f c) g fz (Xd f cs)|.mp ..=>.AR|.lp ..=>.AR
def eH(f):BL.recol f=BL.rec2 f f:=by rfl
def Fr{f}{ob:BL}{b r}(h:ob.recol f=.lp b r):False:=Y' (eH f ▸ h)
def CI.conv{X Y}(f)(k:∀ b i,X.S b i->Y.S b i)(a:∀ b i x,X.S b i->X.cell b i=ae x->Y.cell b i=ae x)(d:(∀ (b:Nat) c t,X.w.heap[b]?=ae (Obj.cells c t (0,0))->∃ c',Y.w.heap[b]?=ae (Obj.cells c' t (0,0))/\c'.size=c.size)/\∀ b es n,X.S b 0->X.w.heap[b]?=ae (Obj.map es n)->Y.w.heap[b]?=ae (Obj.map es n))(j:∀ c b,b<X.w.heap.size->c.ok X.base b->(f c).ok Y.base b)(e:∀ o g p,X.β o g=ae p->Y.β o g=ae p){xs l}(h:CI X xs l):CI Y xs (Xd f l) where
 len:=by rw[Yl,BC];exact h.len
 one:=h.one
 CV:=λi m h2=>by simp only[Yl,FG];exact(h.CV i m (by simpa[Yl]using h2)).conv f k a d j (.inl e)
def Yy(G:Nat->V):Prop:=∀ g,(G g).recol AH.ent=G g/\(G g).Im
def SzK.reb{X Y g v}(h:SzK X g v)(f:Y.w=X.w)(d:Y.base=X.w.heap.size)(b:v.recol AH.ent=v):SzK Y g v:=by
 unfold SzK at h⊢;split
 .rename_i c cs;obtain⟨j,l,t,e,i,h2⟩:=h;have a:g<X.w.heap.size:=zG;refine⟨?_,l,t,e,by grind,h2⟩;rw[V.recol]at b;cases c;simp[AH.ent]at b;rw[d];exact a;trivial
 simp
def jO{G}(hGok:Yy G)(f1 f2){f args H M}(D:Nat->Bool)(hf1:∀ c,f1 c ≠ .new)(hf2:f2=AH.bk\/((∀ c,f2 c ≠ .old)/\∀ o c g fz cs,D o=true->H o=.cells c g fz cs->c=.new))(hen:Yf P f=true)(h:∀ X cargs,X.base=X.w.heap.size->BZ X (λo=>if D o then(H o).rec2 f1 AH.ent else .AR)->(∀ g,FI X g (G g))->FA X cargs (args.map (V.recol AH.ent)) ->
   Calls P f cargs X.w (λe w'=>∃ c v H' Y,(∃ H'',(∀ o,H'' o=.AR\/H'' o=(H' o).rec2 f2 AH.bk\/(D o=ab/\H'' o=H o))/\M e c (v.recol AH.bk) H'')/\Y.w=w' /\
    BH X (λo=>if D o then(H o).rec2 f1 AH.ent else .AR) Y H'/\AI Y c v)):CallE P G f args H M:=by
 refine⟨hen,λX cargs z hG hA=>?_⟩;have lt:∀ {b i} {x},X.cell b i=ae x->b<X.w.heap.size:=λhc=>World.block_lt_of_cell? _ _ hc;let Q:={X with base:=X.w.heap.size};have T:∀ c b,b<X.w.heap.size->AH.ok c X.base b->(AH.ent c).ok Q.base b:=by intro c b l _;cases c;exact l;exact l;trivial
 have hent1:∀ c b,b<X.w.heap.size->(f1 c).ok Q.base b:=by intro c b l;have:=hf1 c;cases h:f1 c;exact absurd h this;exact l;trivial
 let W:=λo=>if D o then(H o).rec2 f1 AH.ent else .AR;have J:∀ o c g fz cs,W o=.cells c g fz cs->∃ C j,D o=true/\H o=.cells C g fz j/\c=f1 C/\cs=Xd AH.ent j:=by
  intro o c g fz cs d;simp only[W]at d;split at d
  .rename_i hd;cases N:H o with|AR=>rw[N]at d;simp[BL.rec2]at d|mp=>rw[N]at d;simp[BL.rec2]at d|lp=>rw[N]at d;simp[BL.rec2]at d|cells C g0 fz0 j=>rw[N]at d;simp only[BL.rec2,BL.cells.injEq]at d;obtain⟨rfl,rfl,rfl,rfl⟩:=d;exact⟨C,j,hd,rfl,rfl,rfl⟩
  cases d
 have hL1:∀ o b r,W o=.lp b r->False:=by intro o b r d;simp only[W]at d;split at d;exact Y' d;cases d
 have hIe:BZ Q W:=by
  refine⟨?_,?_,?_,z.CK,BO _,λb i L l=>absurd (z.DD b i L).1 (PA.2 l),.no (λo lo b ks vs d=>by simp only[W]at d;split at d;cases N:H o<;>rw[N]at d<;>simp[BL.rec2]at d;cases d),.no hL1⟩
  intro o c g fz cs d;obtain⟨C,j,_,a,rfl,rfl⟩:=J _ _ _ _ _ d;obtain⟨b,k,h2,K,c',t,h4,h5,h6⟩:=z.DQ o C g fz j a;refine⟨b,k,h2,hent1 _ _ (z.lt a h2),c',t,h4,by rw[Yl,BC];exact h5,?_⟩;have:=h6.conv (X:=X) (Y:=Q) AH.ent (λ_ _ h=>h) (λ_ _ _ _ h=>h) ⟨λ_ c _ h=>⟨c,h,rfl⟩,λ_ _ _ _ h=>h⟩ T (λ_ _ _ h=>h);rw[Yl,BC];rw[Yl]at this;exact this;intro o1 c1 g1 f1 l1 o2 c2 g2 f2 l2 b s1 s2 a h2 b1 b2;obtain⟨_,_,_,a,_,_⟩:=J _ _ _ _ _ a;obtain⟨_,_,_,h2,_,_⟩:=J _ _ _ _ _ h2;exact z.inj _ _ _ _ _ _ _ _ _ _ _ _ _ a h2 b1 b2;intro b i L;refine⟨(z.DD b i L).1,λo c g fz cs k d l=>?_⟩;obtain⟨_,_,_,a,_,_⟩:=J _ _ _ _ _ d;exact(z.DD b i L).2 _ _ _ _ _ _ a l
 have hGe:∀ g,FI Q g (G g):=by intro g;refine⟨?_,(hG g).sz.reb rfl rfl (hGok g).1⟩;have:=(hG g).CV.conv (X:=X) (Y:=Q) AH.ent (λ_ _ h=>h) (λ_ _ _ _ h=>h) ⟨λ_ c _ h=>⟨c,h,rfl⟩,λ_ _ _ _ h=>h⟩ T (.inl λ_ _ _ h=>h);rwa [(hGok g).1]at this
 have hAe:FA Q cargs (args.map (V.recol AH.ent)):=by refine⟨zu hA.len,λi a h2=>?_⟩;simp only[FG];exact(hA.CV i a (zu h2)).conv (X:=X) (Y:=Q) AH.ent (λ_ _ h=>h) (λ_ _ _ _ h=>h) ⟨λ_ c _ h=>⟨c,h,rfl⟩,λ_ _ _ _ h=>h⟩ T (.inl λ_ _ _ h=>h)
 refine(h Q cargs rfl hIe hGe hAe).mono ?_;rintro e w' ⟨c,v,H',Y,⟨H'',U,hk⟩,rfl,u,hr⟩;let Z:={Y with base:=X.base};have hbk:∀ c b,b<Y.w.heap.size->AH.ok c Y.base b->(AH.bk c).ok Z.base b:=by intro c b _ hok;have hbase:Y.base=X.w.heap.size:=u.le.base;have:=z.bw;cases c;simp only[AH.ok,AH.bk]at hok⊢;show X.base<=b;omega;trivial;trivial
 have O:X.le Z:=⟨u.le.β,u.le.S,u.le.cell,rfl,u.le.blk,u.le.map⟩;have B:∀ b,Wk Q W b->∃ o c g fz cs k,H o=.cells c g fz cs/\X.β o g=ae (b,k):=by refine Ue (λo b r d=>(hL1 _ _ _ d).elim) ?_;rintro b ⟨o,c,g,fz,cs,k,d,l⟩;obtain⟨C,j,_,a,_,_⟩:=J _ _ _ _ _ d;exact⟨o,C,g,fz,j,k,a,l⟩
 have y:∀ b,Wk Q W b->Wk X H b:=λb h=>.inl (B b h);have A:∀ o,D o=ab->∀ c g fz cs b k,H o=.cells c g fz cs->X.β o g=ae (b,k)->¬Wk Q W b:=by rintro o hd c g fz cs b k d l (⟨o',c',g',fz',cs',E,F,hb'⟩|⟨o',r',F⟩);rotate_left;exact hL1 _ _ _ F;obtain⟨C,j,hd',a,_,_⟩:=J _ _ _ _ _ F;have:=z.inj _ _ _ _ _ _ _ _ _ _ _ _ _ d a l hb';subst this;rw[hd]at hd';cases hd'
 have p:∀ o c g fz cs,H'' o=.cells c g fz cs->(∃ C j,H' o=.cells C g fz j/\c=f2 C/\cs=Xd AH.bk j)\/(D o=ab/\H o=.cells c g fz cs):=by
  intro o c g fz cs d;rcases U o with a|a|⟨h2,K⟩;rw[a]at d;cases d
  .rw[a]at d;cases N:H' o with|AR=>rw[N]at d;simp[BL.rec2]at d|mp=>rw[N]at d;simp[BL.rec2]at d|lp=>rw[N]at d;simp[BL.rec2]at d|cells C g0 fz0 j=>rw[N]at d;simp only[BL.rec2,BL.cells.injEq]at d;obtain⟨rfl,rfl,rfl,rfl⟩:=d;exact .inl ⟨C,j,rfl,rfl,rfl⟩
  exact .inr ⟨h2,by rw[<- K];exact d⟩
 have m:∀ o,D o=ab->∀ c g fz cs,H o=.cells c g fz cs->∃ b k,X.β o g=ae (b,k)/\Y.β o g=ae (b,k)/\b<X.w.heap.size/\Y.w.heap[b]?=X.w.heap[b]? := by intro o hd c g fz cs d;obtain⟨b,k,h2,_⟩:=z.DQ o c g fz cs d;have hlt:=z.lt d h2;exact⟨b,k,h2,u.le.β _ _ _ h2,hlt,u.kp.block b hlt (A o hd c g fz cs b k d h2)⟩
 have s:∀ o c g fz cs b k,H' o=.cells c g fz cs->Y.β o g=ae (b,k)->X.w.heap.size<=b\/Wk Q W b:=λo c g fz cs b k d l=>u.on b (.inl ⟨o,c,g,fz,cs,k,d,l⟩);have hbk2:∀ o c g fz cs b k,H' o=.cells c g fz cs->Y.β o g=ae (b,k)->c.ok Y.base b->(f2 c).ok Z.base b:=by
  intro o c g fz cs b k d l hok;rcases hf2 with rfl|⟨hne,hnew⟩;exact hbk _ _ (u.BJ.lt d l) hok;have hge:X.base<=b:=by rcases s o c g fz cs b k d l with a|⟨o',c',g',fz',cs',E,F,hb'⟩|⟨o',r',F⟩;exact CT z.bw a;obtain⟨C,j,hd',a,_,_⟩:=J _ _ _ _ _ F;obtain rfl:=hnew _ _ _ _ _ hd' a;obtain⟨b2,bs2,h2,K,_⟩:=z.DQ _ _ _ _ _ a;rw[show X.β o' g'=ae (b,E)from hb']at h2;cases h2;exact K;exact(hL1 _ _ _ F).elim
  cases h:f2 c;exact hge;exact absurd h (hne c);trivial
 have hSnZ:∀ b i,Z.S b i->X.S b i\/X.w.heap.size<=b\/Wk X H b:=by intro b i L;rcases u.Sn b i L with a|a|a;exact .inl a;exact .inr (.inl a);exact .inr (.inr (y b a))
 have hL2:∀ o b r,H'' o=.lp b r->H o=.lp b r:=λo b r d=>by rcases U o with a|a|⟨_,a⟩;rw[a]at d;cases d;rw[a]at d;exact(Y' d).elim;rw[<- a];exact d
 refine⟨c,v.recol AH.bk,H'',Z,hk,rfl,⟨⟨?_,?_,?_,u.BJ.CK,?_,λb i L l=>(by
  rcases u.Sn b i L with a|a|a;rcases z.IM b i a l with ⟨c1,t1,h2⟩|⟨rfl,es,n,h2⟩;obtain⟨c2,K,_⟩:=O.blk b c1 t1 h2;exact .inl ⟨c2,t1,K⟩;exact .inr ⟨rfl,es,n,O.map b es n a h2⟩;exact u.BJ.IM b i L (by rw[u.le.base];exact a)
  .obtain⟨c1,t1,h2⟩:=z.live_thaw (B b a);obtain⟨c2,K,_⟩:=O.blk b c1 t1 h2;exact .inl ⟨c2,t1,K⟩),z.mps_tr O (λo lo b ks vs d=>by
    rcases U o with a|a|⟨_,a⟩;rw[a]at d;cases d;rw[a]at d;cases N:H' o<;>rw[N]at d<;>simp[BL.rec2]at d;rw[<- a];exact d) (u.kp.mono λb _ hl=>y b hl) hSnZ,z.lps_tr hL2 λb r l=>u.kp.block b (DB.1 l).1 λhl=>by
    obtain⟨o,c,g,fz,cs,k,d,hβ⟩:=B b hl;obtain⟨b',E,hβ',_,c',t,K,_⟩:=z.DQ o c g fz cs d;rw[hβ]at hβ';cases hβ';rw[l]at K;cases K⟩,O,?_,?_,?_⟩,?_⟩
 intro o c g fz cs d;rcases p o c g fz cs d with ⟨C,j,a,rfl,rfl⟩|⟨hd,a⟩;obtain⟨b,k,h2,K,c',t,h4,h5,h6⟩:=u.BJ.DQ o C g fz j a;refine⟨b,k,h2,hbk2 _ _ _ _ _ _ _ a h2 K,c',t,h4,by rw[Yl,BC];exact h5,?_⟩;have:=h6.conv (X:=Y) (Y:=Z) AH.bk (λ_ _ h=>h) (λ_ _ _ _ h=>h) ⟨λ_ c _ h=>⟨c,h,rfl⟩,λ_ _ _ _ h=>h⟩ hbk (λ_ _ _ h=>h);rw[Yl,BC];rw[Yl]at this;exact this;obtain⟨b,k,h2,K,h4,h5⟩:=m o hd c g fz cs a;obtain⟨b',E,h2',h6,c',t,h7,h8,h9⟩:=z.DQ o c g fz cs a;rw[h2]at h2';cases h2';exact⟨b,k,K,h6,c',t,by show Y.w.heap[b]?=_;rw[h5];exact h7,h8,h9.mono O⟩;intro o1 c1 g1 f1 l1 o2 c2 g2 f2 l2 b s1 s2 a h2 b1 b2;rcases p _ _ _ _ _ a with ⟨d1,m1,a,_,_⟩|⟨I,a⟩;rcases p _ _ _ _ _ h2 with ⟨d2,m2,h2,_,_⟩|⟨hd2,h2⟩;exact u.BJ.inj _ _ _ _ _ _ _ _ _ _ _ _ _ a h2 b1 b2;obtain⟨b',E,q1,q2,q3,q4⟩:=m o2 hd2 _ _ _ _ h2;rw[show Z.β o2 g2=Y.β o2 g2 from rfl,q2]at b2;cases b2;rcases s _ _ _ _ _ _ _ a b1 with R|R;omega;exact absurd R (A o2 hd2 _ _ _ _ _ _ h2 q1);obtain⟨b',E,q1,q2,q3,q4⟩:=m o1 I _ _ _ _ a;rw[show Z.β o1 g1=Y.β o1 g1 from rfl,q2]at b1;cases b1;rcases p _ _ _ _ _ h2 with ⟨d2,m2,h2,_,_⟩|⟨hd2,h2⟩;rcases s _ _ _ _ _ _ _ h2 b2 with R|R;omega;exact absurd R (A o1 I _ _ _ _ _ _ a q1);obtain⟨b'',bs'',p1,p2,p3,p4⟩:=m o2 hd2 _ _ _ _ h2;rw[show Z.β o2 g2=Y.β o2 g2 from rfl,p2]at b2;cases b2;exact z.inj _ _ _ _ _ _ _ _ _ _ _ _ _ a h2 q1 p1;intro b i L;have hs':=u.BJ.DD b i L;refine⟨hs'.1,λo c g fz cs k d l=>?_⟩;rcases p _ _ _ _ _ d with ⟨d1,m1,a,_,_⟩|⟨I,a⟩;exact hs'.2 _ _ _ _ _ _ a l;obtain⟨b',E,q1,q2,q3,q4⟩:=m o I _ _ _ _ a;rw[show Z.β o g=Y.β o g from rfl,q2]at l;cases l;rcases u.Sn b i L with R|R|R;exact(z.DD b i R).2 _ _ _ _ _ _ a q1;have:X.w.heap.size<=b:=R;omega;exact absurd R (A o I _ _ _ _ _ _ a q1);have a:=z.bw;have h2:X.w.heap.size<=Y.w.heap.size:=u.kp.size;show X.base<=Y.w.heap.size;omega;exact u.kp.mono λb _ hl=>y b hl;intro b i L;rcases u.Sn b i L with a|a|a;exact .inl a;exact .inr (.inl a);exact .inr (.inr (y b a));refine Ue (λo b r d=>.inr (.inr ⟨o,r,hL2 _ _ _ d⟩)) ?_;rintro b ⟨o,c,g,fz,cs,k,d,l⟩;rcases p _ _ _ _ _ d with ⟨d1,m1,a,_,_⟩|⟨I,a⟩;rcases s _ _ _ _ _ _ _ a l with q|q;exact .inl q;exact .inr (y b q);obtain⟨b',E,q1,q2,q3,q4⟩:=m o I _ _ _ _ a;rw[show Z.β o g=Y.β o g from rfl,q2]at l;cases l;exact .inr (.inl ⟨o,c,g,fz,cs,k,a,q1⟩);exact hr.conv (X:=Y) (Y:=Z) AH.bk (λ_ _ h=>h) (λ_ _ _ _ h=>h) ⟨λ_ c _ h=>⟨c,h,rfl⟩,λ_ _ _ _ h=>h⟩ hbk (.inl λ_ _ _ h=>h)
def rA{G}(a:Yy G){f args H M}(D:Nat->Bool)(b:Yf P f=true)(h:∀ X cargs,X.base=X.w.heap.size->BZ X (λo=>if D o then(H o).recol AH.ent else .AR)->(∀ g,FI X g (G g))->FA X cargs (args.map (V.recol AH.ent)) ->
   Calls P f cargs X.w (λe w'=>∃ c v H' Y,(∃ H'',(∀ o,H'' o=.AR\/H'' o=(H' o).recol AH.bk\/(D o=ab/\H'' o=H o))/\M e c (v.recol AH.bk) H'')/\Y.w=w' /\
    BH X (λo=>if D o then(H o).recol AH.ent else .AR) Y H'/\AI Y c v)):CallE P G f args H M:=jO a AH.ent _ D (λc=>by cases c<;>simp[AH.ent]) (.inl rfl) b (by simpa only[eH]using h)
def kG{G}(b:Yy G){f args H K}(D:Nat->Bool)(d:Yf P f=true)(h:Spec P G f (args.map (V.recol AH.ent)) (λo=>if D o then(H o).recol AH.ent else .AR)
   (λv H'=>∃ H'',(∀ o,H'' o=.AR\/H'' o=(H' o).recol AH.bk\/(D o=ab/\H'' o=H o))/\K (v.recol AH.bk) H'')):CallA P G f args H K:=
 CallP.no (rA b D d λX a j i h2 g=>(h X a j i h2 g).mono λe w' ⟨c,v,H',Y,q,p,n,m,H'',l,k⟩=>⟨c,v,H',Y,⟨H'',l,.inl ⟨q,k⟩⟩,p,n,m⟩)
def Zm:A':=λ_=>.AR
def CallA.pure{G}(a:Yy G){f args H K}(b:Yf P f=true)(h:Spec P G f (args.map (V.recol AH.ent)) Zm (λv _=>K (v.recol AH.bk) H)):CallA P G f args H K:=by
 refine kG a (λ_=>ab) b ?_;have e:(λo=>if(λ_=>ab:Nat->Bool) o=true then(H o).recol AH.ent else BL.AR)=Zm:=by rfl
 exact h.mono λv d c=>⟨H,λo=>.inr (.inr ID),c⟩
abbrev GS:=@CallA.pure
