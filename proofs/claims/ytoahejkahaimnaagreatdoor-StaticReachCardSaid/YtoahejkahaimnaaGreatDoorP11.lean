/- A part. No condition. -/
import Derived.Test.YtoahejkahaimnaaGreatDoorP10
set_option linter.all false
namespace Go.Hs
section
variable{P:Program}{E:Ent}{s:AS}{a:Act}{w:World}
mutual
def V.recol(f:Col->Col):V->V
 |.view c v=>.view (f c) (v.recol f)
 |.slice c clip E l=>.slice (f c) clip E (Zja f l)
 |.func fn xs ys=>.func fn (Zja f xs) (Zja f ys)
 |.iface t v=>.iface t (v.recol f)
 |.agg l=>.agg (Zja f l)
 |.tuple l=>.tuple (Zja f l)
 |.top=>.top
 |.bool b=>.bool b
 |.int k n=>.int k n
 |.str s=>.str s
 |.nilp=>.nilp
 |.ptr o g off=>.ptr o g off
 |.nils=>.nils
 |.msl o g off len E=>.msl o g off len E
 |.nilf=>.nilf
 |.nili=>.nili
 |.nilm=>.nilm
 |.mapv ks vs=>.mapv (Zja f ks) (Zja f vs)
 |.mref o b=>.mref o b
def Zja(f:Col->Col):List V->List V
 |[]=>[]
 |v::r=>v.recol f::Zja f r
end
theorem Z7(f:Col->Col):∀ l:List V,Zja f l=l.map (V.recol f)
 |[]=>rfl
 |v::r=>by simp[Zja,Z7 f r]
theorem Zjc(f:Col->Col)(v:V):(v.recol f).cells=v.cells.map (V.recol f):=by
 cases v<;>simp[V.recol,V.cells,Z7]
theorem Zye(f:Col->Col)(l:List V):flat (l.map (V.recol f))=(flat l).map (V.recol f):=by
 unfold flat
 induction l with
 |nil=>rfl
 |cons v r ih=>simp[Zjc,ih]
inductive V.Im:V->Prop
 |bool (b:Bool):Im (.bool b)
 |int (k:IntKind) (n:Int):Im (.int k n)
 |str (s:List UInt8):Im (.str s)
 |nilp:Im .nilp
 |view (c:Col) (v:V) (h:∀ x∈v.cells,Im x):Im (.view c v)
 |nils:Im .nils
 |slice (c:Col) (clip:Bool) (E:Nat) (l:List V) (h:∀ x∈flat l,Im x):Im (.slice c clip E l)
 |func (fn:Fn) (xs ys:List V) (hx:∀ x∈xs,Im x) (hy:∀ x∈ys,Im x):Im (.func fn xs ys)
 |nilf:Im .nilf
 |iface (t:TypeId) (v:V) (h:Im v):Im (.iface t v)
 |nili:Im .nili
 |agg (l:List V) (h:∀ x∈l,Im x):Im (.agg l)
 |tuple (l:List V) (h:∀ x∈l,Im x):Im (.tuple l)
 |nilm:Im .nilm
 |mapv (ks vs:List V) (hk:∀ x∈ks,Im x) (hv:∀ x∈vs,Im x):Im (.mapv ks vs)
 |top:Im .top
theorem Rel.conv{X Y:Cx}(f:Col->Col)(hS:∀ b i,X.S b i->Y.S b i)(hcell:∀ b i x,X.S b i->X.cell b i=some x->Y.cell b i=some x)
  (hblk:(∀ (b:Nat) (c:Array Value) t,X.w.heap[b]?=some (Obj.cells c t (0,0))->∃ c':Array Value,Y.w.heap[b]?=some (Obj.cells c' t (0,0))/\c'.size=c.size)/\∀ (b:Nat) es n,X.S b 0->X.w.heap[b]?=some (Obj.map es n)->Y.w.heap[b]?=some (Obj.map es n))
  (hf:∀ c b,b<X.w.heap.size->c.ok X.base b->(f c).ok Y.base b) {x:Value} {v:V} (h:Rel X x v) (hβ : (∀ o g p,X.β o g=some p->Y.β o g=some p)\/v.Im):Rel Y x (v.recol f):=by
 have lt:∀ {b i:Nat} {x:Value},X.cell b i=some x->b<X.w.heap.size:=λhc=>World.block_lt_of_cell? _ _ hc
 induction h with
 |top x=>exact .top x
 |bool b=>exact .bool b
 |int k n=>exact .int k n
 |str s l h=>exact .str s l h
 |nilp=>exact .nilp
 |view c v b off fn hc hr ih=>
  simp only[V.recol];refine .view (f c) _ b off fn (λi hi=>?_) (λi hi=>?_);rw[Zjc,List.length_map]at hi;obtain⟨h1,h2,h3,h4⟩:=hc i hi;exact⟨hS _ _ h1,hf _ _ (lt h3) h2,hcell _ _ _ h1 h3,h4⟩
  .simp only[Zjc,List.getElem_map]
   rw[Zjc,List.length_map]at hi;refine ih i hi (hβ.imp id λhim=>?_)
   cases him with
   |view _ _ h=>exact h _ (List.getElem_mem _)
 |ptr o g off b bs h=>
  rcases hβ with hβ|hβ
  exact .ptr o g off b bs (hβ _ _ _ h);cases hβ
 |nils=>exact .nils
 |slice c clip E l b off cap fn hcap hclip hE hc hr ih=>
  simp only[V.recol,Z7]
  have:=Rel.slice (X:=Y) (f c) clip E (l.map (V.recol f)) b off cap fn (zu hcap) (zu hclip)
   (by intro v hv;simp only[List.mem_map]at hv;obtain⟨u,hu,rfl⟩:=hv;rw[Zjc,List.length_map];exact hE u hu)
   (λi hi=>by
    rw[Zye,List.length_map]at hi;obtain⟨h1,h2,h3,h4⟩:=hc i hi
    exact⟨hS _ _ h1,hf _ _ (lt h3) h2,hcell _ _ _ h1 h3,h4⟩)
   (λi hi=>by
    simp only[Zye,List.getElem_map];rw[Zye,List.length_map]at hi;refine ih i hi (hβ.imp id λhim=>?_)
    cases him with
    |slice _ _ _ _ h=>exact h _ (List.getElem_mem _))
  simpa using this
 |slice0 c clip E a=>exact .slice0 (f c) clip E a
 |msl o g off len E b bs cap h hcap hb=>
  rcases hβ with hβ|hβ
  obtain⟨c,t,hb,hs⟩:=hb;obtain⟨c',hb',hs'⟩:=hblk.1 _ _ _ hb;exact .msl o g off len E b bs cap (hβ _ _ _ h) hcap ⟨c',t,hb',zo⟩;cases hβ
 |func fn xs ys ls ms hx hy hxr hyr ihx ihy=>
  simp only[V.recol,Z7];refine .func fn xs ys _ _ (zu hx) (zu hy) (λi h1 h2=>?_) (λi h1 h2=>?_)
  .simp only[List.getElem_map]
   refine ihx i h1 (zu h2) (hβ.imp id λhim=>?_)
   cases him with
   |func _ _ _ h _=>exact h _ (List.getElem_mem _)
  .simp only[List.getElem_map]
   refine ihy i h1 (zu h2) (hβ.imp id λhim=>?_)
   cases him with
   |func _ _ _ _ h=>exact h _ (List.getElem_mem _)
 |nilf=>exact .nilf
 |iface t x v h ih=>
  refine .iface t x _ (ih (hβ.imp id λhim=>?_))
  cases him with
  |iface _ _ h=>exact h
 |nili=>exact .nili
 |agg xs l hx ho hr ih=>
  simp only[V.recol,Z7];refine .agg xs _ (zu hx) ho (λi h1 h2=>?_);simp only[List.getElem_map];refine ih i h1 (zu h2) (hβ.imp id λhim=>?_)
  cases him with
  |agg _ h=>exact h _ (List.getElem_mem _)
 |tuple xs l hx hr ih=>
  simp only[V.recol,Z7];refine .tuple xs _ (zu hx) (λi h1 h2=>?_);simp only[List.getElem_map];refine ih i h1 (zu h2) (hβ.imp id λhim=>?_)
  cases him with
  |tuple _ h=>exact h _ (List.getElem_mem _)
 |nilm=>exact .nilm
 |mref o b=>exact .mref o b
 |mapv b n es ks vs hs hb hk hv hkr hvr ihk ihv=>
  simp only[V.recol,Z7];refine .mapv b n es _ _ (hS _ _ hs) (hblk.2 _ _ _ hs hb) (zu hk) (zu hv) (λi h1 h2=>?_) (λi h1 h2=>?_)
  .simp only[List.getElem_map]
   refine ihk i h1 (zu h2) (hβ.imp id λhim=>?_)
   cases him with
   |mapv _ _ h _=>exact h _ (List.getElem_mem _)
  .simp only[List.getElem_map]
   refine ihv i h1 (zu h2) (hβ.imp id λhim=>?_)
   cases him with
   |mapv _ _ _ h=>exact h _ (List.getElem_mem _)
def Col.ent:Col->Col
 |.new=>.old
 |.old=>.old
 |.any=>.any
def Col.bk:Col->Col
 |.new=>.new
 |.old=>.any
 |.any=>.any
def AObj.rec2(fc fv:Col->Col):AObj->AObj
 |.dead=>.dead
 |.cells c g fz cs=>.cells (fc c) g fz (Zja fv cs)
 |.mp ..=>.dead
 |.lp ..=>.dead
theorem Zzea{fc fv:Col->Col}{ob:AObj}{b:Nat}{r:Loop}(h:ob.rec2 fc fv=.lp b r):False:=by cases ob<;>simp[AObj.rec2]at h
def AObj.recol(f:Col->Col):AObj->AObj
 |.dead=>.dead
 |.cells c g fz cs=>.cells (f c) g fz (Zja f cs)
 |.mp ..=>.dead
 |.lp ..=>.dead
theorem Zcla(f:Col->Col):AObj.recol f=AObj.rec2 f f:=by funext x;cases x<;>rfl
theorem RelC.conv{X Y:Cx}(f:Col->Col)(hS:∀ b i,X.S b i->Y.S b i)(hcell:∀ b i x,X.S b i->X.cell b i=some x->Y.cell b i=some x)
  (hblk:(∀ (b:Nat) (c:Array Value) t,X.w.heap[b]?=some (Obj.cells c t (0,0))->∃ c':Array Value,Y.w.heap[b]?=some (Obj.cells c' t (0,0))/\c'.size=c.size)/\∀ (b:Nat) es n,X.S b 0->X.w.heap[b]?=some (Obj.map es n)->Y.w.heap[b]?=some (Obj.map es n))
  (hf:∀ c b,b<X.w.heap.size->c.ok X.base b->(f c).ok Y.base b) (hβ : ∀ o g p,X.β o g=some p->Y.β o g=some p) {xs:List Value} {l:List V} (h:RelC X xs l):RelC Y xs (Zja f l) where
 len:=by rw[Z7,List.length_map];exact h.len
 one:=h.one
 rel:=λi h1 h2=>by
  simp only[Z7,List.getElem_map];exact(h.rel i h1 (by simpa[Z7]using h2)).conv f hS hcell hblk hf (.inl hβ)
def GOk(G:Nat->V):Prop:=∀ g,(G g).recol Col.ent=G g/\(G g).Im
theorem SzK.reb{X Y:Cx}{g:Nat}{v:V}(h:SzK X g v)(hw:Y.w=X.w)(hb:Y.base=X.w.heap.size)(hv:v.recol Col.ent=v):SzK Y g v:=by
 unfold SzK at h⊢
 split
 .rename_i c cs
  simp only at h;obtain⟨h0,l,t,fr,h1,h2⟩:=h
  have hlt:g<X.w.heap.size:=by rw[Array.getElem?_eq_some_iff]at h1;exact h1.1
  refine⟨?_,l,t,fr,by rw[hw];exact h1,h2⟩;rw[V.recol]at hv
  cases c with
  |new=>simp[Col.ent]at hv
  |old=>show g<Y.base;rw[hb];exact hlt
  |any=>trivial
 trivial
theorem Zur{G:Nat->V}(hGok:GOk G)(f1 f2:Col->Col){f:FuncId}{args:List V}{H:Heap}{M:Ending->Value->V->Heap->Prop}(D:Nat->Bool)(hf1:∀ c,f1 c ≠ .new)(hf2:f2=Col.bk\/((∀ c,f2 c ≠ .old)/\∀ o c g fz cs,D o=true->H o=.cells c g fz cs->c=.new))(hen:Z2 P f=true)
  (h:∀ (X:Cx) (cargs:Array Value),X.base=X.w.heap.size->Inv X (λo=>if D o then(H o).rec2 f1 Col.ent else .dead)->(∀ g,RelG X g (G g))->RelA X cargs (args.map (V.recol Col.ent)) ->
   Calls P f cargs X.w (λe w'=>∃ c v H' Y,(∃ H'',(∀ o,H'' o=.dead\/H'' o=(H' o).rec2 f2 Col.bk\/(D o=false/\H'' o=H o))/\M e c (v.recol Col.bk) H'')/\Y.w=w' /\
    Goes X (λo=>if D o then(H o).rec2 f1 Col.ent else .dead) Y H'/\Rel Y c v)):CallE P G f args H M:=by
 refine⟨hen,λX cargs hI hG hA=>?_⟩;have lt:∀ {b i:Nat} {x:Value},X.cell b i=some x->b<X.w.heap.size:=λhc=>World.block_lt_of_cell? _ _ hc
 let Xe:Cx:={ X with base:=X.w.heap.size }
 have hent:∀ c b,b<X.w.heap.size->Col.ok c X.base b->(Col.ent c).ok Xe.base b:=by
  intro c b hb _;cases c;exact hb;exact hb
  trivial
 have hent1:∀ c b,b<X.w.heap.size->(f1 c).ok Xe.base b:=by
  intro c b hb;have:=hf1 c;cases h:f1 c;exact absurd h this;exact hb
  trivial
 let H1:Heap:=λo=>if D o then(H o).rec2 f1 Col.ent else .dead
 have hH1:∀ o c g fz cs,H1 o=.cells c g fz cs->∃ c0 cs0,D o=true/\H o=.cells c0 g fz cs0/\c=f1 c0/\cs=Zja Col.ent cs0:=by
  intro o c g fz cs ho;simp only[H1]at ho
  split at ho
  .rename_i hd
   cases hh:H o with
   |dead=>rw[hh]at ho;simp[AObj.rec2]at ho
   |mp=>rw[hh]at ho;simp[AObj.rec2]at ho
   |lp=>rw[hh]at ho;simp[AObj.rec2]at ho
   |cells c0 g0 fz0 cs0=>
    rw[hh]at ho;simp only[AObj.rec2,AObj.cells.injEq]at ho;obtain⟨rfl,rfl,rfl,rfl⟩:=ho;exact⟨c0,cs0,hd,rfl,rfl,rfl⟩
  cases ho
 have hL1:∀ o b r,H1 o=.lp b r->False:=by
  intro o b r ho;simp only[H1]at ho
  split at ho
  exact Zzea ho;cases ho
 have hIe:Inv Xe H1:=by
  refine⟨?_,?_,?_,hI.fin,Nat.le_refl _,λb i hs hb=>absurd (hI.safe b i hs).1 (Nat.not_lt.2 hb),.no (λo lo b ks vs ho=>by
   simp only[H1]at ho
   split at ho
   cases hh:H o<;>rw[hh]at ho<;>simp[AObj.rec2]at ho
   cases ho),.no hL1⟩
  intro o c g fz cs ho;obtain⟨c0,cs0,_,h1,rfl,rfl⟩:=hH1 _ _ _ _ _ ho;obtain⟨b,bs,h2,h3,c',t,h4,h5,h6⟩:=hI.obj o c0 g fz cs0 h1;refine⟨b,bs,h2,hent1 _ _ (hI.lt h1 h2),c',t,h4,by rw[Z7,List.length_map];exact h5,?_⟩;have:=h6.conv (X:=X) (Y:=Xe) Col.ent (λ_ _ h=>h) (λ_ _ _ _ h=>h) ⟨λ_ c _ h=>⟨c,h,rfl⟩,λ_ _ _ _ h=>h⟩ hent (λ_ _ _ h=>h);rw[Z7,List.length_map];rw[Z7]at this;exact this;intro o1 c1 g1 f1 l1 o2 c2 g2 f2 l2 b s1 s2 h1 h2 b1 b2;obtain⟨_,_,_,h1,_,_⟩:=hH1 _ _ _ _ _ h1;obtain⟨_,_,_,h2,_,_⟩:=hH1 _ _ _ _ _ h2;exact hI.inj _ _ _ _ _ _ _ _ _ _ _ _ _ h1 h2 b1 b2;intro b i hs;refine⟨(hI.safe b i hs).1,λo c g fz cs bs ho hb=>?_⟩;obtain⟨_,_,_,h1,_,_⟩:=hH1 _ _ _ _ _ ho;exact(hI.safe b i hs).2 _ _ _ _ _ _ h1 hb
 have hGe:∀ g,RelG Xe g (G g):=by
  intro g;refine⟨?_,(hG g).sz.reb rfl rfl (hGok g).1⟩;have:=(hG g).rel.conv (X:=X) (Y:=Xe) Col.ent (λ_ _ h=>h) (λ_ _ _ _ h=>h) ⟨λ_ c _ h=>⟨c,h,rfl⟩,λ_ _ _ _ h=>h⟩ hent (.inl λ_ _ _ h=>h);rwa [(hGok g).1]at this
 have hAe:RelA Xe cargs (args.map (V.recol Col.ent)):=by
  refine⟨zu hA.len,λi h1 h2=>?_⟩;simp only[List.getElem_map];exact(hA.rel i h1 (zu h2)).conv (X:=X) (Y:=Xe) Col.ent (λ_ _ h=>h) (λ_ _ _ _ h=>h) ⟨λ_ c _ h=>⟨c,h,rfl⟩,λ_ _ _ _ h=>h⟩ hent (.inl λ_ _ _ h=>h)
 refine(h Xe cargs rfl hIe hGe hAe).mono ?_;rintro e w' ⟨c,v,H',Y,⟨H'',hH'',hk⟩,rfl,hg,hr⟩
 let Z:Cx:={ Y with base:=X.base }
 have hbk:∀ c b,b<Y.w.heap.size->Col.ok c Y.base b->(Col.bk c).ok Z.base b:=by
  intro c b _ hok;have hbase:Y.base=X.w.heap.size:=hg.le.base;have:=hI.bw;cases c;simp only[Col.ok,Col.bk]at hok⊢
  show X.base<=b
  omega
  trivial
  trivial
 have hXZ:X.le Z:=⟨hg.le.β,hg.le.S,hg.le.cell,rfl,hg.le.blk,hg.le.map⟩
 have hLive0:∀ b,LiveB Xe H1 b->∃ o c g fz cs bs,H o=.cells c g fz cs/\X.β o g=some (b,bs):=by
  refine Zmd (λo b r ho=>(hL1 _ _ _ ho).elim) ?_;rintro b ⟨o,c,g,fz,cs,bs,ho,hb⟩;obtain⟨c0,cs0,_,h1,_,_⟩:=hH1 _ _ _ _ _ ho;exact⟨o,c0,g,fz,cs0,bs,h1,hb⟩
 have hLive:∀ b,LiveB Xe H1 b->LiveB X H b:=λb h=>.inl (hLive0 b h)
 have hrest:∀ o,D o=false->∀ c g fz cs b bs,H o=.cells c g fz cs->X.β o g=some (b,bs)->¬ LiveB Xe H1 b:=by
  rintro o hd c g fz cs b bs ho hb (⟨o',c',g',fz',cs',bs',ho',hb'⟩|⟨o',r',ho'⟩);rotate_left;exact hL1 _ _ _ ho';obtain⟨c0,cs0,hd',h1,_,_⟩:=hH1 _ _ _ _ _ ho';have:=hI.inj _ _ _ _ _ _ _ _ _ _ _ _ _ ho h1 hb hb';subst this;rw[hd]at hd';cases hd'
 have hcase:∀ o c g fz cs,H'' o=.cells c g fz cs->(∃ c0 cs0,H' o=.cells c0 g fz cs0/\c=f2 c0/\cs=Zja Col.bk cs0)\/(D o=false/\H o=.cells c g fz cs):=by
  intro o c g fz cs ho
  rcases hH'' o with h1|h1|⟨h2,h3⟩
  rw[h1]at ho;cases ho
  .rw[h1]at ho
   cases hh:H' o with
   |dead=>rw[hh]at ho;simp[AObj.rec2]at ho
   |mp=>rw[hh]at ho;simp[AObj.rec2]at ho
   |lp=>rw[hh]at ho;simp[AObj.rec2]at ho
   |cells c0 g0 fz0 cs0=>
    rw[hh]at ho;simp only[AObj.rec2,AObj.cells.injEq]at ho;obtain⟨rfl,rfl,rfl,rfl⟩:=ho;exact .inl ⟨c0,cs0,rfl,rfl,rfl⟩
  exact .inr ⟨h2,by rw[<- h3];exact ho⟩
 have hkept:∀ o,D o=false->∀ c g fz cs,H o=.cells c g fz cs->∃ b bs,X.β o g=some (b,bs)/\Y.β o g=some (b,bs)/\b<X.w.heap.size/\Y.w.heap[b]?=X.w.heap[b]? := by
  intro o hd c g fz cs ho;obtain⟨b,bs,h2,_⟩:=hI.obj o c g fz cs ho;have hlt:=hI.lt ho h2;exact⟨b,bs,h2,hg.le.β _ _ _ h2,hlt,hg.kp.block b hlt (hrest o hd c g fz cs b bs ho h2)⟩
 have hlive':∀ o c g fz cs b bs,H' o=.cells c g fz cs->Y.β o g=some (b,bs)->X.w.heap.size<=b\/LiveB Xe H1 b:=λo c g fz cs b bs ho hb=>hg.on b (.inl ⟨o,c,g,fz,cs,bs,ho,hb⟩)
 have hbk2:∀ o c g fz cs b bs,H' o=.cells c g fz cs->Y.β o g=some (b,bs)->c.ok Y.base b->(f2 c).ok Z.base b:=by
  intro o c g fz cs b bs ho hb hok
  rcases hf2 with rfl|⟨hne,hnew⟩
  exact hbk _ _ (hg.inv.lt ho hb) hok
  have hge:X.base<=b:=by
   rcases hlive' o c g fz cs b bs ho hb with h1|⟨o',c',g',fz',cs',bs',ho',hb'⟩|⟨o',r',ho'⟩
   exact Nat.le_trans hI.bw h1;obtain⟨c0,cs0,hd',h1,_,_⟩:=hH1 _ _ _ _ _ ho';obtain rfl:=hnew _ _ _ _ _ hd' h1;obtain⟨b2,bs2,h2,h3,_⟩:=hI.obj _ _ _ _ _ h1;rw[show X.β o' g'=some (b,bs')from hb']at h2;cases h2;exact h3;exact(hL1 _ _ _ ho').elim
  cases h:f2 c;exact hge;exact absurd h (hne c)
  trivial
 have hSnZ:∀ b i,Z.S b i->X.S b i\/X.w.heap.size<=b\/LiveB X H b:=by
  intro b i hs
  rcases hg.Sn b i hs with h1|h1|h1
  exact .inl h1;exact .inr (.inl h1);exact .inr (.inr (hLive b h1))
 have hL2:∀ o b r,H'' o=.lp b r->H o=.lp b r:=λo b r ho=>by
  rcases hH'' o with h1|h1|⟨_,h1⟩
  rw[h1]at ho;cases ho;rw[h1]at ho;exact(Zzea ho).elim;rw[<- h1];exact ho
 refine⟨c,v.recol Col.bk,H'',Z,hk,rfl,⟨⟨?_,?_,?_,hg.inv.fin,?_,λb i hs hb=>(by
  rcases hg.Sn b i hs with h1|h1|h1
  rcases hI.thaw b i h1 hb with ⟨c1,t1,h2⟩|⟨rfl,es,n,h2⟩
  obtain⟨c2,h3,_⟩:=hXZ.blk b c1 t1 h2;exact .inl ⟨c2,t1,h3⟩;exact .inr ⟨rfl,es,n,hXZ.map b es n h1 h2⟩;exact hg.inv.thaw b i hs (by rw[hg.le.base];exact h1)
  .obtain⟨c1,t1,h2⟩:=hI.live_thaw (hLive0 b h1)
   obtain⟨c2,h3,_⟩:=hXZ.blk b c1 t1 h2
   exact .inl ⟨c2,t1,h3⟩),hI.mps_tr hXZ (λo lo b ks vs ho=>by
    rcases hH'' o with h1|h1|⟨_,h1⟩
    rw[h1]at ho;cases ho
    rw[h1]at ho;cases hh:H' o<;>rw[hh]at ho<;>simp[AObj.rec2]at ho
    rw[<- h1];exact ho) (hg.kp.mono λb _ hl=>hLive b hl) hSnZ,hI.lps_tr hL2 λb r hb=>hg.kp.block b (Array.getElem?_eq_some_iff.1 hb).1 λhl=>by
    obtain⟨o,c,g,fz,cs,bs,ho,hβ⟩:=hLive0 b hl;obtain⟨b',bs',hβ',_,c',t,h3,_⟩:=hI.obj o c g fz cs ho
    rw[hβ]at hβ';cases hβ';rw[hb]at h3;cases h3⟩,hXZ,?_,?_,?_⟩,?_⟩
 intro o c g fz cs ho
 rcases hcase o c g fz cs ho with ⟨c0,cs0,h1,rfl,rfl⟩|⟨hd,h1⟩
 obtain⟨b,bs,h2,h3,c',t,h4,h5,h6⟩:=hg.inv.obj o c0 g fz cs0 h1;refine⟨b,bs,h2,hbk2 _ _ _ _ _ _ _ h1 h2 h3,c',t,h4,by rw[Z7,List.length_map];exact h5,?_⟩;have:=h6.conv (X:=Y) (Y:=Z) Col.bk (λ_ _ h=>h) (λ_ _ _ _ h=>h) ⟨λ_ c _ h=>⟨c,h,rfl⟩,λ_ _ _ _ h=>h⟩ hbk (λ_ _ _ h=>h);rw[Z7,List.length_map];rw[Z7]at this;exact this;obtain⟨b,bs,h2,h3,h4,h5⟩:=hkept o hd c g fz cs h1;obtain⟨b',bs',h2',h6,c',t,h7,h8,h9⟩:=hI.obj o c g fz cs h1;rw[h2]at h2';cases h2';exact⟨b,bs,h3,h6,c',t,by show Y.w.heap[b]?=_;rw[h5];exact h7,h8,h9.mono hXZ⟩;intro o1 c1 g1 f1 l1 o2 c2 g2 f2 l2 b s1 s2 h1 h2 b1 b2
 rcases hcase _ _ _ _ _ h1 with ⟨d1,m1,h1,_,_⟩|⟨hd1,h1⟩
 rcases hcase _ _ _ _ _ h2 with ⟨d2,m2,h2,_,_⟩|⟨hd2,h2⟩
 exact hg.inv.inj _ _ _ _ _ _ _ _ _ _ _ _ _ h1 h2 b1 b2;obtain⟨b',bs',q1,q2,q3,q4⟩:=hkept o2 hd2 _ _ _ _ h2;rw[show Z.β o2 g2=Y.β o2 g2 from rfl,q2]at b2;cases b2
 rcases hlive' _ _ _ _ _ _ _ h1 b1 with q5|q5
 omega;exact absurd q5 (hrest o2 hd2 _ _ _ _ _ _ h2 q1);obtain⟨b',bs',q1,q2,q3,q4⟩:=hkept o1 hd1 _ _ _ _ h1;rw[show Z.β o1 g1=Y.β o1 g1 from rfl,q2]at b1;cases b1
 rcases hcase _ _ _ _ _ h2 with ⟨d2,m2,h2,_,_⟩|⟨hd2,h2⟩
 rcases hlive' _ _ _ _ _ _ _ h2 b2 with q5|q5
 omega;exact absurd q5 (hrest o1 hd1 _ _ _ _ _ _ h1 q1);obtain⟨b'',bs'',p1,p2,p3,p4⟩:=hkept o2 hd2 _ _ _ _ h2;rw[show Z.β o2 g2=Y.β o2 g2 from rfl,p2]at b2;cases b2;exact hI.inj _ _ _ _ _ _ _ _ _ _ _ _ _ h1 h2 q1 p1;intro b i hs;have hs':=hg.inv.safe b i hs;refine⟨hs'.1,λo c g fz cs bs ho hb=>?_⟩
 rcases hcase _ _ _ _ _ ho with ⟨d1,m1,h1,_,_⟩|⟨hd1,h1⟩
 exact hs'.2 _ _ _ _ _ _ h1 hb;obtain⟨b',bs',q1,q2,q3,q4⟩:=hkept o hd1 _ _ _ _ h1;rw[show Z.β o g=Y.β o g from rfl,q2]at hb;cases hb
 rcases hg.Sn b i hs with q5|q5|q5
 exact(hI.safe b i q5).2 _ _ _ _ _ _ h1 q1;have:X.w.heap.size<=b:=q5;omega;exact absurd q5 (hrest o hd1 _ _ _ _ _ _ h1 q1);have h1:=hI.bw;have h2:X.w.heap.size<=Y.w.heap.size:=hg.kp.size
 show X.base<=Y.w.heap.size
 omega;exact hg.kp.mono λb _ hl=>hLive b hl;intro b i hs
 rcases hg.Sn b i hs with h1|h1|h1
 exact .inl h1;exact .inr (.inl h1);exact .inr (.inr (hLive b h1));refine Zmd (λo b r ho=>.inr (.inr ⟨o,r,hL2 _ _ _ ho⟩)) ?_;rintro b ⟨o,c,g,fz,cs,bs,ho,hb⟩
 rcases hcase _ _ _ _ _ ho with ⟨d1,m1,h1,_,_⟩|⟨hd1,h1⟩
 rcases hlive' _ _ _ _ _ _ _ h1 hb with q|q
 exact .inl q;exact .inr (hLive b q);obtain⟨b',bs',q1,q2,q3,q4⟩:=hkept o hd1 _ _ _ _ h1;rw[show Z.β o g=Y.β o g from rfl,q2]at hb;cases hb;exact .inr (.inl ⟨o,c,g,fz,cs,bs,h1,q1⟩);exact hr.conv (X:=Y) (Y:=Z) Col.bk (λ_ _ h=>h) (λ_ _ _ _ h=>h) ⟨λ_ c _ h=>⟨c,h,rfl⟩,λ_ _ _ _ h=>h⟩ hbk (.inl λ_ _ _ h=>h)
theorem Z4y{G:Nat->V}(hGok:GOk G){f:FuncId}{args:List V}{H:Heap}{M:Ending->Value->V->Heap->Prop}(D:Nat->Bool)(hen:Z2 P f=true)
  (h:∀ (X:Cx) (cargs:Array Value),X.base=X.w.heap.size->Inv X (λo=>if D o then(H o).recol Col.ent else .dead)->(∀ g,RelG X g (G g))->RelA X cargs (args.map (V.recol Col.ent)) ->
   Calls P f cargs X.w (λe w'=>∃ c v H' Y,(∃ H'',(∀ o,H'' o=.dead\/H'' o=(H' o).recol Col.bk\/(D o=false/\H'' o=H o))/\M e c (v.recol Col.bk) H'')/\Y.w=w' /\
    Goes X (λo=>if D o then(H o).recol Col.ent else .dead) Y H'/\Rel Y c v)):CallE P G f args H M:=Zur hGok Col.ent Col.bk D (λc=>by cases c<;>simp[Col.ent]) (.inl rfl) hen (by simpa only[Zcla]using h)
theorem Z5y{G:Nat->V}(hGok:GOk G){f:FuncId}{args:List V}{H:Heap}{K:V->Heap->Prop}(D:Nat->Bool)(hen:Z2 P f=true)
  (h:Spec P G f (args.map (V.recol Col.ent)) (λo=>if D o then(H o).recol Col.ent else .dead)
   (λv H'=>∃ H'',(∀ o,H'' o=.dead\/H'' o=(H' o).recol Col.bk\/(D o=false/\H'' o=H o))/\K (v.recol Col.bk) H'')):CallA P G f args H K:=
 CallP.no (Z4y hGok D hen λX cargs h0 h1 h2 h3=>(h X cargs h0 h1 h2 h3).mono λe w' ⟨c,v,H',Y,a1,a2,a3,a4,H'',a5,a6⟩=>⟨c,v,H',Y,⟨H'',a5,.inl ⟨a1,a6⟩⟩,a2,a3,a4⟩)
def Zk:Heap:=λ_=>.dead
theorem CallA.pure{G:Nat->V}(hGok:GOk G){f:FuncId}{args:List V}{H:Heap}{K:V->Heap->Prop}(hen:Z2 P f=true)
  (h:Spec P G f (args.map (V.recol Col.ent)) Zk (λv _=>K (v.recol Col.bk) H)):CallA P G f args H K:=by
 refine Z5y hGok (λ_=>false) hen ?_
 have e:(λo=>if(λ_=>false:Nat->Bool) o=true then(H o).recol Col.ent else AObj.dead)=Zk:=by funext o;simp[Zk]
 rw[e];exact h.mono λv H' hk=>⟨H,λo=>.inr (.inr ⟨rfl,rfl⟩),hk⟩
theorem CallP.pure{G:Nat->V}(hGok:GOk G){kp kp':Option (V->Heap->Prop)}{f:FuncId}{args:List V}{H:Heap}{K:V->Heap->Prop}(hen:Z2 P f=true)
  (hkp:∀ k',kp'=some k'->∃ k,kp=some k/\∀ v H',k' v H'->k (v.recol Col.bk) H)
  (h:SpecP P G kp' f (args.map (V.recol Col.ent)) Zk (λv _=>K (v.recol Col.bk) H)):CallP P G kp f args H K:=by
 refine Z4y hGok (λ_=>false) hen ?_
 have e:(λo=>if(λ_=>false:Nat->Bool) o=true then(H o).recol Col.ent else AObj.dead)=Zk:=by funext o;simp[Zk]
 rw[e];intro X cargs h0 h1 h2 h3;refine(h X cargs h0 h1 h2 h3).mono ?_;rintro e w' ⟨c,v,H',Y,a1,a2,a3,a4⟩;refine⟨c,v,H',Y,⟨H,λo=>.inr (.inr ⟨rfl,rfl⟩),?_⟩,a2,a3,a4⟩
 rcases a1 with ⟨a1,hk⟩|⟨k',hk',a1,hv⟩
 exact .inl ⟨a1,hk⟩;obtain⟨k,hk,hkv⟩:=hkp k' hk';exact .inr ⟨k,hk,a1,hkv _ _ hv⟩
end
end Go.Hs
