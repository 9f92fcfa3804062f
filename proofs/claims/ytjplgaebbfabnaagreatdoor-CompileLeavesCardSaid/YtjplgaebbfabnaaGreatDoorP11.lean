/- A part. No condition. -/
import Derived.Test.YtjplgaebbfabnaaGreatDoorP10
set_option linter.all false
namespace Go.Hs
section
variable{P:Program}{E:Ent}{s:AS}{a:Act}{w:World}
mutual
def V.recol(f:Col->Col):V->V
 |.view c v=>.view (f c) (v.recol f)
 |.slice c clip E l=>.slice (f c) clip E (Yv f l)
 |.func fn xs ys=>.func fn (Yv f xs) (Yv f ys)
 |.iface t v=>.iface t (v.recol f)
 |.agg l=>.agg (Yv f l)
 |.tuple l=>.tuple (Yv f l)
 |.top=>.top
 |.bool b=>.bool b
 |.int k n=>.int k n
 |.str s=>.str s
 |.nilp=>.nilp
 |.ptr o g off=>.ptr o g off
 |.nils=>.nils
 |.msl o g off len E=>.msl o g off len E
 |.nilf=>.nilf
 |.nili=>.nili
 |.nilm=>.nilm
 |.mapv ks vs=>.mapv (Yv f ks) (Yv f vs)
 |.mref o b=>.mref o b
def Yv(f:Col->Col):List V->List V
 |[]=>[]
 |v::r=>v.recol f::Yv f r
end
theorem Yq(f:Col->Col):∀ l:List V,Yv f l=l.map (V.recol f)
 |[]=>rfl
 |v::r=>by simp[Yv,Yq f r]
theorem Vw(f:Col->Col)(v:V):(v.recol f).cells=v.cells.map (V.recol f):=by
 cases v<;>simp[V.recol,V.cells,Yq]
theorem Rj(f:Col->Col)(l:List V):flat (l.map (V.recol f))=(flat l).map (V.recol f):=by
 unfold flat
 induction l with
 |nil=>rfl
 |cons v r ih=>simp[Vw,ih]
inductive V.Im:V->Prop
 |bool (b:Bool):Im (.bool b)
 |int (k:IntKind) (n:Int):Im (.int k n)
 |str (s:List UInt8):Im (.str s)
 |nilp:Im .nilp
 |view (c:Col) (v:V) (h:∀ x∈v.cells,Im x):Im (.view c v)
 |nils:Im .nils
 |slice (c:Col) (clip:Bool) (E:Nat) (l:List V) (h:∀ x∈flat l,Im x):Im (.slice c clip E l)
 |func (fn:Fn) (xs ys:List V) (hx:∀ x∈xs,Im x) (hy:∀ x∈ys,Im x):Im (.func fn xs ys)
 |nilf:Im .nilf
 |iface (t:TypeId) (v:V) (h:Im v):Im (.iface t v)
 |nili:Im .nili
 |agg (l:List V) (h:∀ x∈l,Im x):Im (.agg l)
 |tuple (l:List V) (h:∀ x∈l,Im x):Im (.tuple l)
 |nilm:Im .nilm
 |mapv (ks vs:List V) (hk:∀ x∈ks,Im x) (hv:∀ x∈vs,Im x):Im (.mapv ks vs)
 |top:Im .top
theorem Rel.conv{X Y:Cx}(f:Col->Col)(G:∀ b i,X.S b i->Y.S b i)(r:∀ b i x,X.S b i->X.cell b i=some x->Y.cell b i=some x)
  (y:(∀ (b:Nat) (c:Array Value) t,X.w.heap[b]?=some (Obj.cells c t (0,0))->∃ c':Array Value,Y.w.heap[b]?=some (Obj.cells c' t (0,0))/\c'.size=c.size)/\∀ (b:Nat) es n,X.S b 0->X.w.heap[b]?=some (Obj.map es n)->Y.w.heap[b]?=some (Obj.map es n))
  (I:∀ c b,b<X.w.heap.size->c.ok X.base b->(f c).ok Y.base b) {x:Value} {v:V} (h:Rel X x v) (e : (∀ o g p,X.β o g=some p->Y.β o g=some p)\/v.Im):Rel Y x (v.recol f):=by
 have lt:∀ {b i:Nat} {x:Value},X.cell b i=some x->b<X.w.heap.size:=λz=>World.block_lt_of_cell? _ _ z
 induction h with
 |top x=>exact .top x
 |bool b=>exact .bool b
 |int k n=>exact .int k n
 |str s l h=>exact .str s l h
 |nilp=>exact .nilp
 |view c v b off fn z hr ih=>
  simp only[V.recol];refine .view (f c) _ b off fn (λi q=>?_) (λi q=>?_);rw[Vw,List.length_map]at q;obtain⟨j,m,B,H⟩:=z i q;exact⟨G _ _ j,I _ _ (lt B) m,r _ _ _ j B,H⟩
  .simp only[Vw,List.getElem_map]
   rw[Vw,List.length_map]at q;refine ih i q (e.imp id λd=>?_)
   cases d with
   |view _ _ h=>exact h _ (List.getElem_mem _)
 |ptr o g off b bs h=>
  rcases e with e|e
  exact .ptr o g off b bs (e _ _ _ h);cases e
 |nils=>exact .nils
 |slice c clip E l b off cap fn hcap hclip hE z hr ih=>
  simp only[V.recol,Yq]
  have:=Rel.slice (X:=Y) (f c) clip E (l.map (V.recol f)) b off cap fn (zu hcap) (zu hclip)
   (by intro v C;simp only[List.mem_map]at C;obtain⟨u,J,rfl⟩:=C;rw[Vw,List.length_map];exact hE u J)
   (λi q=>by
    rw[Rj,List.length_map]at q;obtain⟨j,m,B,H⟩:=z i q
    exact⟨G _ _ j,I _ _ (lt B) m,r _ _ _ j B,H⟩)
   (λi q=>by
    simp only[Rj,List.getElem_map];rw[Rj,List.length_map]at q;refine ih i q (e.imp id λd=>?_)
    cases d with
    |slice _ _ _ _ h=>exact h _ (List.getElem_mem _))
  simpa using this
 |slice0 c clip E a=>exact .slice0 (f c) clip E a
 |msl o g off len E b bs cap h hcap A=>
  rcases e with e|e
  obtain⟨c,t,A,D⟩:=A;obtain⟨c',F,K⟩:=y.1 _ _ _ A;exact .msl o g off len E b bs cap (e _ _ _ h) hcap ⟨c',t,F,zo⟩;cases e
 |func fn xs ys ls ms hx hy hxr hyr ihx ihy=>
  simp only[V.recol,Yq];refine .func fn xs ys _ _ (zu hx) (zu hy) (λi j m=>?_) (λi j m=>?_)
  .simp only[List.getElem_map]
   refine ihx i j (zu m) (e.imp id λd=>?_)
   cases d with
   |func _ _ _ h _=>exact h _ (List.getElem_mem _)
  .simp only[List.getElem_map]
   refine ihy i j (zu m) (e.imp id λd=>?_)
   cases d with
   |func _ _ _ _ h=>exact h _ (List.getElem_mem _)
 |nilf=>exact .nilf
 |iface t x v h ih=>
  refine .iface t x _ (ih (e.imp id λd=>?_))
  cases d with
  |iface _ _ h=>exact h
 |nili=>exact .nili
 |agg xs l hx ho hr ih=>
  simp only[V.recol,Yq];refine .agg xs _ (zu hx) ho (λi j m=>?_);simp only[List.getElem_map];refine ih i j (zu m) (e.imp id λd=>?_)
  cases d with
  |agg _ h=>exact h _ (List.getElem_mem _)
 |tuple xs l hx hr ih=>
  simp only[V.recol,Yq];refine .tuple xs _ (zu hx) (λi j m=>?_);simp only[List.getElem_map];refine ih i j (zu m) (e.imp id λd=>?_)
  cases d with
  |tuple _ h=>exact h _ (List.getElem_mem _)
 |nilm=>exact .nilm
 |mref o b=>exact .mref o b
 |mapv b n es ks vs D A hk C hkr hvr ihk ihv=>
  simp only[V.recol,Yq];refine .mapv b n es _ _ (G _ _ D) (y.2 _ _ _ D A) (zu hk) (zu C) (λi j m=>?_) (λi j m=>?_)
  .simp only[List.getElem_map]
   refine ihk i j (zu m) (e.imp id λd=>?_)
   cases d with
   |mapv _ _ h _=>exact h _ (List.getElem_mem _)
  .simp only[List.getElem_map]
   refine ihv i j (zu m) (e.imp id λd=>?_)
   cases d with
   |mapv _ _ _ h=>exact h _ (List.getElem_mem _)
def Col.ent:Col->Col
 |.new=>.old
 |.old=>.old
 |.any=>.any
def Col.bk:Col->Col
 |.new=>.new
 |.old=>.any
 |.any=>.any
def AObj.rec2(fc fv:Col->Col):AObj->AObj
 |.dead=>.dead
 |.cells c g fz cs=>.cells (fc c) g fz (Yv fv cs)
 |.mp ..=>.dead
 |.lp ..=>.dead
theorem Zqx{c a:Col->Col}{ob:AObj}{b:Nat}{r:Loop}(h:ob.rec2 c a=.lp b r):False:=by cases ob<;>simp[AObj.rec2]at h
def AObj.recol(f:Col->Col):AObj->AObj
 |.dead=>.dead
 |.cells c g fz cs=>.cells (f c) g fz (Yv f cs)
 |.mp ..=>.dead
 |.lp ..=>.dead
theorem Z15(f:Col->Col):AObj.recol f=AObj.rec2 f f:=by rfl
theorem RelC.conv{X Y:Cx}(f:Col->Col)(k:∀ b i,X.S b i->Y.S b i)(a:∀ b i x,X.S b i->X.cell b i=some x->Y.cell b i=some x)
  (d:(∀ (b:Nat) (c:Array Value) t,X.w.heap[b]?=some (Obj.cells c t (0,0))->∃ c':Array Value,Y.w.heap[b]?=some (Obj.cells c' t (0,0))/\c'.size=c.size)/\∀ (b:Nat) es n,X.S b 0->X.w.heap[b]?=some (Obj.map es n)->Y.w.heap[b]?=some (Obj.map es n))
  (j:∀ c b,b<X.w.heap.size->c.ok X.base b->(f c).ok Y.base b) (e : ∀ o g p,X.β o g=some p->Y.β o g=some p) {xs:List Value} {l:List V} (h:RelC X xs l):RelC Y xs (Yv f l) where
 len:=by rw[Yq,List.length_map];exact h.len
 one:=h.one
 rel:=λi q m=>by
  simp only[Yq,List.getElem_map];exact(h.rel i q (by simpa[Yq]using m)).conv f k a d j (.inl e)
def Y6(G:Nat->V):Prop:=∀ g,(G g).recol Col.ent=G g/\(G g).Im
theorem SzK.reb{X Y:Cx}{g:Nat}{v:V}(h:SzK X g v)(i:Y.w=X.w)(d:Y.base=X.w.heap.size)(b:v.recol Col.ent=v):SzK Y g v:=by
 unfold SzK at h⊢
 split
 .rename_i c cs
  obtain⟨k,l,t,f,j,e⟩:=h
  have a:g<X.w.heap.size:=by grind
  refine⟨?_,l,t,f,by grind,e⟩;rw[V.recol]at b
  cases c with
  |new=>simp[Col.ent]at b
  |old=>rw[d];exact a
  |any=>trivial
 simp
theorem B7{G:Nat->V}(hGok:Y6 G)(f1 f2:Col->Col){f:FuncId}{args:List V}{H:Heap}{M:Ending->Value->V->Heap->Prop}(D:Nat->Bool)(hf1:∀ c,f1 c ≠ .new)(hf2:f2=Col.bk\/((∀ c,f2 c ≠ .old)/\∀ o c g fz cs,D o=true->H o=.cells c g fz cs->c=.new))(hen:Z7 P f=true)
  (h:∀ (X:Cx) (cargs:Array Value),X.base=X.w.heap.size->Inv X (λo=>if D o then(H o).rec2 f1 Col.ent else .dead)->(∀ g,RelG X g (G g))->RelA X cargs (args.map (V.recol Col.ent)) ->
   Calls P f cargs X.w (λe w'=>∃ c v H' Y,(∃ H'',(∀ o,H'' o=.dead\/H'' o=(H' o).rec2 f2 Col.bk\/(D o=false/\H'' o=H o))/\M e c (v.recol Col.bk) H'')/\Y.w=w' /\
    Goes X (λo=>if D o then(H o).rec2 f1 Col.ent else .dead) Y H'/\Rel Y c v)):CallE P G f args H M:=by
 refine⟨hen,λX cargs A hG hA=>?_⟩;have lt:∀ {b i:Nat} {x:Value},X.cell b i=some x->b<X.w.heap.size:=λhc=>World.block_lt_of_cell? _ _ hc
 let R:Cx:={ X with base:=X.w.heap.size }
 have U:∀ c b,b<X.w.heap.size->Col.ok c X.base b->(Col.ent c).ok R.base b:=by
  intro c b m _;cases c;exact m;exact m
  trivial
 have hent1:∀ c b,b<X.w.heap.size->(f1 c).ok R.base b:=by
  intro c b m;have:=hf1 c;cases h:f1 c;exact absurd h this;exact m
  trivial
 let H1:Heap:=λo=>if D o then(H o).rec2 f1 Col.ent else .dead
 have K:∀ o c g fz cs,H1 o=.cells c g fz cs->∃ E k,D o=true/\H o=.cells E g fz k/\c=f1 E/\cs=Yv Col.ent k:=by
  intro o c g fz cs d;simp only[H1]at d
  split at d
  .rename_i hd
   cases O:H o with
   |dead=>rw[O]at d;simp[AObj.rec2]at d
   |mp=>rw[O]at d;simp[AObj.rec2]at d
   |lp=>rw[O]at d;simp[AObj.rec2]at d
   |cells E g0 fz0 k=>
    rw[O]at d;simp only[AObj.rec2,AObj.cells.injEq]at d;obtain⟨rfl,rfl,rfl,rfl⟩:=d;exact⟨E,k,hd,rfl,rfl,rfl⟩
  cases d
 have hL1:∀ o b r,H1 o=.lp b r->False:=by
  intro o b r d;simp only[H1]at d
  split at d
  exact Zqx d;cases d
 have hIe:Inv R H1:=by
  refine⟨?_,?_,?_,A.fin,Nat.le_refl _,λb i N m=>absurd (A.safe b i N).1 (Nat.not_lt.2 m),.no (λo lo b ks vs d=>by
   simp only[H1]at d
   split at d
   cases O:H o<;>rw[O]at d<;>simp[AObj.rec2]at d
   cases d),.no hL1⟩
  intro o c g fz cs d;obtain⟨E,k,_,a,rfl,rfl⟩:=K _ _ _ _ _ d;obtain⟨b,l,j,L,c',t,h4,h5,h6⟩:=A.obj o E g fz k a;refine⟨b,l,j,hent1 _ _ (A.lt a j),c',t,h4,by rw[Yq,List.length_map];exact h5,?_⟩;have:=h6.conv (X:=X) (Y:=R) Col.ent (λ_ _ h=>h) (λ_ _ _ _ h=>h) ⟨λ_ c _ h=>⟨c,h,rfl⟩,λ_ _ _ _ h=>h⟩ U (λ_ _ _ h=>h);rw[Yq,List.length_map];rw[Yq]at this;exact this;intro o1 c1 g1 f1 l1 o2 c2 g2 f2 l2 b s1 s2 a j b1 b2;obtain⟨_,_,_,a,_,_⟩:=K _ _ _ _ _ a;obtain⟨_,_,_,j,_,_⟩:=K _ _ _ _ _ j;exact A.inj _ _ _ _ _ _ _ _ _ _ _ _ _ a j b1 b2;intro b i N;refine⟨(A.safe b i N).1,λo c g fz cs l d m=>?_⟩;obtain⟨_,_,_,a,_,_⟩:=K _ _ _ _ _ d;exact(A.safe b i N).2 _ _ _ _ _ _ a m
 have hGe:∀ g,RelG R g (G g):=by
  intro g;refine⟨?_,(hG g).sz.reb rfl rfl (hGok g).1⟩;have:=(hG g).rel.conv (X:=X) (Y:=R) Col.ent (λ_ _ h=>h) (λ_ _ _ _ h=>h) ⟨λ_ c _ h=>⟨c,h,rfl⟩,λ_ _ _ _ h=>h⟩ U (.inl λ_ _ _ h=>h);rwa [(hGok g).1]at this
 have hAe:RelA R cargs (args.map (V.recol Col.ent)):=by
  refine⟨zu hA.len,λi a j=>?_⟩;simp only[List.getElem_map];exact(hA.rel i a (zu j)).conv (X:=X) (Y:=R) Col.ent (λ_ _ h=>h) (λ_ _ _ _ h=>h) ⟨λ_ c _ h=>⟨c,h,rfl⟩,λ_ _ _ _ h=>h⟩ U (.inl λ_ _ _ h=>h)
 refine(h R cargs rfl hIe hGe hAe).mono ?_;rintro e w' ⟨c,v,H',Y,⟨H'',W,hk⟩,rfl,y,hr⟩
 let Z:Cx:={ Y with base:=X.base }
 have hbk:∀ c b,b<Y.w.heap.size->Col.ok c Y.base b->(Col.bk c).ok Z.base b:=by
  intro c b _ hok;have hbase:Y.base=X.w.heap.size:=y.le.base;have:=A.bw;cases c;simp only[Col.ok,Col.bk]at hok⊢
  show X.base<=b
  omega
  trivial
  trivial
 have Q:X.le Z:=⟨y.le.β,y.le.S,y.le.cell,rfl,y.le.blk,y.le.map⟩
 have C:∀ b,Xx R H1 b->∃ o c g fz cs l,H o=.cells c g fz cs/\X.β o g=some (b,l):=by
  refine Uw (λo b r d=>(hL1 _ _ _ d).elim) ?_;rintro b ⟨o,c,g,fz,cs,l,d,m⟩;obtain⟨E,k,_,a,_,_⟩:=K _ _ _ _ _ d;exact⟨o,E,g,fz,k,l,a,m⟩
 have z:∀ b,Xx R H1 b->Xx X H b:=λb h=>.inl (C b h)
 have B:∀ o,D o=false->∀ c g fz cs b l,H o=.cells c g fz cs->X.β o g=some (b,l)->¬ Xx R H1 b:=by
  rintro o hd c g fz cs b l d m (⟨o',c',g',fz',cs',F,I,hb'⟩|⟨o',r',I⟩);rotate_left;exact hL1 _ _ _ I;obtain⟨E,k,hd',a,_,_⟩:=K _ _ _ _ _ I;have:=A.inj _ _ _ _ _ _ _ _ _ _ _ _ _ d a m hb';subst this;rw[hd]at hd';cases hd'
 have s:∀ o c g fz cs,H'' o=.cells c g fz cs->(∃ E k,H' o=.cells E g fz k/\c=f2 E/\cs=Yv Col.bk k)\/(D o=false/\H o=.cells c g fz cs):=by
  intro o c g fz cs d
  rcases W o with a|a|⟨j,L⟩
  rw[a]at d;cases d
  .rw[a]at d
   cases O:H' o with
   |dead=>rw[O]at d;simp[AObj.rec2]at d
   |mp=>rw[O]at d;simp[AObj.rec2]at d
   |lp=>rw[O]at d;simp[AObj.rec2]at d
   |cells E g0 fz0 k=>
    rw[O]at d;simp only[AObj.rec2,AObj.cells.injEq]at d;obtain⟨rfl,rfl,rfl,rfl⟩:=d;exact .inl ⟨E,k,rfl,rfl,rfl⟩
  exact .inr ⟨j,by rw[<- L];exact d⟩
 have p:∀ o,D o=false->∀ c g fz cs,H o=.cells c g fz cs->∃ b l,X.β o g=some (b,l)/\Y.β o g=some (b,l)/\b<X.w.heap.size/\Y.w.heap[b]?=X.w.heap[b]? := by
  intro o hd c g fz cs d;obtain⟨b,l,j,_⟩:=A.obj o c g fz cs d;have hlt:=A.lt d j;exact⟨b,l,j,y.le.β _ _ _ j,hlt,y.kp.block b hlt (B o hd c g fz cs b l d j)⟩
 have u:∀ o c g fz cs b l,H' o=.cells c g fz cs->Y.β o g=some (b,l)->X.w.heap.size<=b\/Xx R H1 b:=λo c g fz cs b l d m=>y.on b (.inl ⟨o,c,g,fz,cs,l,d,m⟩)
 have hbk2:∀ o c g fz cs b l,H' o=.cells c g fz cs->Y.β o g=some (b,l)->c.ok Y.base b->(f2 c).ok Z.base b:=by
  intro o c g fz cs b l d m hok
  rcases hf2 with rfl|⟨hne,hnew⟩
  exact hbk _ _ (y.inv.lt d m) hok
  have hge:X.base<=b:=by
   rcases u o c g fz cs b l d m with a|⟨o',c',g',fz',cs',F,I,hb'⟩|⟨o',r',I⟩
   exact Nat.le_trans A.bw a;obtain⟨E,k,hd',a,_,_⟩:=K _ _ _ _ _ I;obtain rfl:=hnew _ _ _ _ _ hd' a;obtain⟨b2,bs2,j,L,_⟩:=A.obj _ _ _ _ _ a;rw[show X.β o' g'=some (b,F)from hb']at j;cases j;exact L;exact(hL1 _ _ _ I).elim
  cases h:f2 c;exact hge;exact absurd h (hne c)
  trivial
 have hSnZ:∀ b i,Z.S b i->X.S b i\/X.w.heap.size<=b\/Xx X H b:=by
  intro b i N
  rcases y.Sn b i N with a|a|a
  exact .inl a;exact .inr (.inl a);exact .inr (.inr (z b a))
 have hL2:∀ o b r,H'' o=.lp b r->H o=.lp b r:=λo b r d=>by
  rcases W o with a|a|⟨_,a⟩
  rw[a]at d;cases d;rw[a]at d;exact(Zqx d).elim;rw[<- a];exact d
 refine⟨c,v.recol Col.bk,H'',Z,hk,rfl,⟨⟨?_,?_,?_,y.inv.fin,?_,λb i N m=>(by
  rcases y.Sn b i N with a|a|a
  rcases A.thaw b i a m with ⟨c1,t1,j⟩|⟨rfl,es,n,j⟩
  obtain⟨c2,L,_⟩:=Q.blk b c1 t1 j;exact .inl ⟨c2,t1,L⟩;exact .inr ⟨rfl,es,n,Q.map b es n a j⟩;exact y.inv.thaw b i N (by rw[y.le.base];exact a)
  .obtain⟨c1,t1,j⟩:=A.live_thaw (C b a)
   obtain⟨c2,L,_⟩:=Q.blk b c1 t1 j
   exact .inl ⟨c2,t1,L⟩),A.mps_tr Q (λo lo b ks vs d=>by
    rcases W o with a|a|⟨_,a⟩
    rw[a]at d;cases d
    rw[a]at d;cases O:H' o<;>rw[O]at d<;>simp[AObj.rec2]at d
    rw[<- a];exact d) (y.kp.mono λb _ hl=>z b hl) hSnZ,A.lps_tr hL2 λb r m=>y.kp.block b (Array.getElem?_eq_some_iff.1 m).1 λhl=>by
    obtain⟨o,c,g,fz,cs,l,d,hβ⟩:=C b hl;obtain⟨b',F,hβ',_,c',t,L,_⟩:=A.obj o c g fz cs d
    rw[hβ]at hβ';cases hβ';rw[m]at L;cases L⟩,Q,?_,?_,?_⟩,?_⟩
 intro o c g fz cs d
 rcases s o c g fz cs d with ⟨E,k,a,rfl,rfl⟩|⟨hd,a⟩
 obtain⟨b,l,j,L,c',t,h4,h5,h6⟩:=y.inv.obj o E g fz k a;refine⟨b,l,j,hbk2 _ _ _ _ _ _ _ a j L,c',t,h4,by rw[Yq,List.length_map];exact h5,?_⟩;have:=h6.conv (X:=Y) (Y:=Z) Col.bk (λ_ _ h=>h) (λ_ _ _ _ h=>h) ⟨λ_ c _ h=>⟨c,h,rfl⟩,λ_ _ _ _ h=>h⟩ hbk (λ_ _ _ h=>h);rw[Yq,List.length_map];rw[Yq]at this;exact this;obtain⟨b,l,j,L,h4,h5⟩:=p o hd c g fz cs a;obtain⟨b',F,h2',h6,c',t,h7,h8,h9⟩:=A.obj o c g fz cs a;rw[j]at h2';cases h2';exact⟨b,l,L,h6,c',t,by show Y.w.heap[b]?=_;rw[h5];exact h7,h8,h9.mono Q⟩;intro o1 c1 g1 f1 l1 o2 c2 g2 f2 l2 b s1 s2 a j b1 b2
 rcases s _ _ _ _ _ a with ⟨d1,m1,a,_,_⟩|⟨J,a⟩
 rcases s _ _ _ _ _ j with ⟨d2,m2,j,_,_⟩|⟨hd2,j⟩
 exact y.inv.inj _ _ _ _ _ _ _ _ _ _ _ _ _ a j b1 b2;obtain⟨b',F,q1,q2,q3,q4⟩:=p o2 hd2 _ _ _ _ j;rw[show Z.β o2 g2=Y.β o2 g2 from rfl,q2]at b2;cases b2
 rcases u _ _ _ _ _ _ _ a b1 with T|T
 omega;exact absurd T (B o2 hd2 _ _ _ _ _ _ j q1);obtain⟨b',F,q1,q2,q3,q4⟩:=p o1 J _ _ _ _ a;rw[show Z.β o1 g1=Y.β o1 g1 from rfl,q2]at b1;cases b1
 rcases s _ _ _ _ _ j with ⟨d2,m2,j,_,_⟩|⟨hd2,j⟩
 rcases u _ _ _ _ _ _ _ j b2 with T|T
 omega;exact absurd T (B o1 J _ _ _ _ _ _ a q1);obtain⟨b'',bs'',p1,p2,p3,p4⟩:=p o2 hd2 _ _ _ _ j;rw[show Z.β o2 g2=Y.β o2 g2 from rfl,p2]at b2;cases b2;exact A.inj _ _ _ _ _ _ _ _ _ _ _ _ _ a j q1 p1;intro b i N;have hs':=y.inv.safe b i N;refine⟨hs'.1,λo c g fz cs l d m=>?_⟩
 rcases s _ _ _ _ _ d with ⟨d1,m1,a,_,_⟩|⟨J,a⟩
 exact hs'.2 _ _ _ _ _ _ a m;obtain⟨b',F,q1,q2,q3,q4⟩:=p o J _ _ _ _ a;rw[show Z.β o g=Y.β o g from rfl,q2]at m;cases m
 rcases y.Sn b i N with T|T|T
 exact(A.safe b i T).2 _ _ _ _ _ _ a q1;have:X.w.heap.size<=b:=T;omega;exact absurd T (B o J _ _ _ _ _ _ a q1);have a:=A.bw;have j:X.w.heap.size<=Y.w.heap.size:=y.kp.size
 show X.base<=Y.w.heap.size
 omega;exact y.kp.mono λb _ hl=>z b hl;intro b i N
 rcases y.Sn b i N with a|a|a
 exact .inl a;exact .inr (.inl a);exact .inr (.inr (z b a));refine Uw (λo b r d=>.inr (.inr ⟨o,r,hL2 _ _ _ d⟩)) ?_;rintro b ⟨o,c,g,fz,cs,l,d,m⟩
 rcases s _ _ _ _ _ d with ⟨d1,m1,a,_,_⟩|⟨J,a⟩
 rcases u _ _ _ _ _ _ _ a m with q|q
 exact .inl q;exact .inr (z b q);obtain⟨b',F,q1,q2,q3,q4⟩:=p o J _ _ _ _ a;rw[show Z.β o g=Y.β o g from rfl,q2]at m;cases m;exact .inr (.inl ⟨o,c,g,fz,cs,l,a,q1⟩);exact hr.conv (X:=Y) (Y:=Z) Col.bk (λ_ _ h=>h) (λ_ _ _ _ h=>h) ⟨λ_ c _ h=>⟨c,h,rfl⟩,λ_ _ _ _ h=>h⟩ hbk (.inl λ_ _ _ h=>h)
theorem Zm4{G:Nat->V}(a:Y6 G){f:FuncId}{args:List V}{H:Heap}{M:Ending->Value->V->Heap->Prop}(D:Nat->Bool)(b:Z7 P f=true)
  (h:∀ (X:Cx) (cargs:Array Value),X.base=X.w.heap.size->Inv X (λo=>if D o then(H o).recol Col.ent else .dead)->(∀ g,RelG X g (G g))->RelA X cargs (args.map (V.recol Col.ent)) ->
   Calls P f cargs X.w (λe w'=>∃ c v H' Y,(∃ H'',(∀ o,H'' o=.dead\/H'' o=(H' o).recol Col.bk\/(D o=false/\H'' o=H o))/\M e c (v.recol Col.bk) H'')/\Y.w=w' /\
    Goes X (λo=>if D o then(H o).recol Col.ent else .dead) Y H'/\Rel Y c v)):CallE P G f args H M:=B7 a Col.ent Col.bk D (λc=>by cases c<;>simp[Col.ent]) (.inl rfl) b (by simpa only[Z15]using h)
theorem Zlb{G:Nat->V}(b:Y6 G){f:FuncId}{args:List V}{H:Heap}{K:V->Heap->Prop}(D:Nat->Bool)(d:Z7 P f=true)
  (h:Spec P G f (args.map (V.recol Col.ent)) (λo=>if D o then(H o).recol Col.ent else .dead)
   (λv H'=>∃ H'',(∀ o,H'' o=.dead\/H'' o=(H' o).recol Col.bk\/(D o=false/\H'' o=H o))/\K (v.recol Col.bk) H'')):CallA P G f args H K:=
 CallP.no (Zm4 b D d λX a k j i g=>(h X a k j i g).mono λe w' ⟨c,v,H',Y,r,q,p,n,H'',m,l⟩=>⟨c,v,H',Y,⟨H'',m,.inl ⟨r,l⟩⟩,q,p,n⟩)
def Zj:Heap:=λ_=>.dead
theorem CallA.pure{G:Nat->V}(a:Y6 G){f:FuncId}{args:List V}{H:Heap}{K:V->Heap->Prop}(b:Z7 P f=true)
  (h:Spec P G f (args.map (V.recol Col.ent)) Zj (λv _=>K (v.recol Col.bk) H)):CallA P G f args H K:=by
 refine Zlb a (λ_=>false) b ?_
 have e:(λo=>if(λ_=>false:Nat->Bool) o=true then(H o).recol Col.ent else AObj.dead)=Zj:=by rfl
 exact h.mono λv d c=>⟨H,λo=>.inr (.inr ⟨rfl,rfl⟩),c⟩
end
end Go.Hs
