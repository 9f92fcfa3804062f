/- A part. No condition. -/
import Derived.Test.YtoahejkahaimnaaGreatDoorP5
import Derived.Laws.CopyRow
import Derived.Laws.Append
set_option linter.all false
namespace Go.Hs
section
variable{P:Program}{X:Cx}{H:Heap}
theorem Inv.lt{o:Nat}(h:Inv X H){c:Col}{g fz:Nat}{cs:List V}(ho:H o=.cells c g fz cs){b bs:Nat}(hβ : X.β o g=some (b,bs)):b<X.w.heap.size:=by
 obtain⟨b',bs',hβ',_,c',t,hb,_⟩:=h.obj o c g fz cs ho;rw[hβ]at hβ';cases hβ';rw[Array.getElem?_eq_some_iff]at hb;exact hb.1
theorem Inv.thaw_le{Y:Cx}(h:Inv X H)(hle:X.le Y)(hS:∀ b i,Y.S b i->X.S b i):∀ b i,Y.S b i->Y.base<=b->(∃ c t,Y.w.heap[b]?=some (Obj.cells c t (0,0)))\/(i=0/\∃ es n,Y.w.heap[b]?=some (Obj.map es n)):=by
 intro b i hs hb;rw[hle.base]at hb
 rcases h.thaw b i (hS b i hs) hb with ⟨c,t,h1⟩|⟨rfl,es,n,h1⟩
 obtain⟨c',h2,_⟩:=hle.blk b c t h1;exact .inl ⟨c',t,h2⟩;exact .inr ⟨rfl,es,n,hle.map b es n (hS b 0 hs) h1⟩
theorem Inv.live_thaw(h:Inv X H){b:Nat}(hl:∃ o c g fz cs bs,H o=.cells c g fz cs/\X.β o g=some (b,bs)):∃ c t,X.w.heap[b]?=some (Obj.cells c t (0,0)):=by
 obtain⟨o,c,g,fz,cs,bs,ho,hβ⟩:=hl;obtain⟨b',bs',hβ',_,c',t,hb,_⟩:=h.obj o c g fz cs ho;rw[hβ]at hβ';cases hβ';exact⟨c',t,hb⟩
theorem LiveB.lt(h:Inv X H){b:Nat}(hl:LiveB X H b):b<X.w.heap.size:=by
 rcases hl with ⟨o,c,g,fz,cs,bs,ho,hβ⟩|⟨o,r,ho⟩
 exact h.lt ho hβ;exact(Array.getElem?_eq_some_iff.1 (h.lps o b r ho).1).1
theorem Zmd{Q:Nat->Prop}(hl:∀ o b r,H o=.lp b r->Q b)(hc:∀ b,(∃ o c g fz cs bs,H o=.cells c g fz cs/\X.β o g=some (b,bs))->Q b):∀ b,LiveB X H b->Q b:=by
 rintro b (q|⟨o,r,ho⟩);exact hc b q;exact hl _ _ _ ho
theorem Zd6{H:Heap}{o:Nat}{c:Col}{g fz:Nat}{cs:List V}(o' b:Nat)(r:Loop)(hh:upd H o (.cells c g fz cs) o'=.lp b r):H o'=.lp b r:=by
 by_cases e:o'=o
 subst e;simp at hh;rwa [Zi _ _ e]at hh
theorem Goes.drew(h:Inv X H)(n:Nat):Goes X H { X with w:={ X.w with drawn:=n } } H:=by
 have hle:X.le { X with w:={ X.w with drawn:=n } }:=⟨λ_ _ _ h=>h,λ_ _ h=>h,λ_ _ _ _ h=>h,rfl,λ_ c _ h=>⟨c,h,rfl⟩,λ_ _ _ _ h=>h⟩;have hkp:Keep (LiveB X H) X.w ({ X.w with drawn:=n }:World):=⟨rfl,rfl,rfl,Nat.le_refl _,λ_ _ _=>rfl⟩;refine⟨⟨?_,h.inj,h.safe,h.fin,h.bw,h.thaw,h.mps_tr hle (λ_ _ _ _ _ h=>h) hkp λ_ _ hs=>.inl hs,h.lps_tr (λ_ _ _ h=>h) λ_ _ _=>rfl⟩,hle,hkp,λ_ _ hs=>.inl hs,λ_ hb=>.inr hb⟩;intro o c g fz cs ho;obtain⟨b,bs,h1,h2,c',t,h3,h4,h5⟩:=h.obj o c g fz cs ho;exact⟨b,bs,h1,h2,c',t,h3,h4,h5.mono hle⟩
theorem Goes.sub(h:Inv X H){H':Heap}(hs:∀ o,H' o=.dead\/H' o=H o):Goes X H X H':=by
 have key:∀ o c g fz cs,H' o=.cells c g fz cs->H o=.cells c g fz cs:=by
  intro o c g fz cs ho
  rcases hs o with h1|h1
  rw[h1]at ho;cases ho;rw[<- h1,ho]
 refine⟨⟨?_,?_,?_,h.fin,h.bw,h.thaw,h.mps_tr (.refl X) (λo lo b ks vs ho=>by rcases hs o with h1|h1<;>rw[h1]at ho;cases ho;exact ho) (Keep.refl _ _) λ_ _ hs=>.inl hs,h.lps_tr (λo b r ho=>by rcases hs o with h1|h1<;>rw[h1]at ho;cases ho;exact ho) λ_ _ _=>rfl⟩,Cx.le.refl X,Keep.refl _ _,λ_ _ hs=>.inl hs,?_⟩;exact λo c g fz cs ho=>h.obj o c g fz cs (key _ _ _ _ _ ho);exact λo1 c1 g1 f1 l1 o2 c2 g2 f2 l2 b s1 s2 h1 h2=>h.inj o1 c1 g1 f1 l1 o2 c2 g2 f2 l2 b s1 s2 (key _ _ _ _ _ h1) (key _ _ _ _ _ h2);exact λb i hsb=>⟨(h.safe b i hsb).1,λo c g fz cs bs ho=>(h.safe b i hsb).2 o c g fz cs bs (key _ _ _ _ _ ho)⟩;refine Zmd (λo b r ho=>.inr (.inr ⟨o,r,by rcases hs o with h1|h1<;>rw[h1]at ho;cases ho;exact ho⟩)) ?_;rintro b ⟨o,c,g,fz,cs,bs,ho,hβ⟩;exact .inr (.inl ⟨o,c,g,fz,cs,bs,key _ _ _ _ _ ho,hβ⟩)
def Cx.add(X:Cx)(o g b bs:Nat)(w:World):Cx:={ X with β := λo' g'=>if o'=o/\g'=g then some (b,bs)else X.β o' g',w:=w }
theorem Z54(h:Inv X H){o g:Nat}(hg:X.β o g=none)(ob:Obj):X.le (X.add o g X.w.heap.size 0 (X.w.alloc ob)) where
 β := λo' g' p hp=>by
  simp only[Cx.add]
  split
  rename_i e;obtain⟨rfl,rfl⟩:=e;rw[hg]at hp;cases hp;exact hp
 S:=λ_ _ h=>h
 cell:=λb i x _ hc=>by
  have:=World.block_lt_of_cell? _ _ hc;exact(World.cell?_alloc_lt X.w ob ⟨b,i,none⟩ this).trans hc
 base:=rfl
 blk:=λb c t hb=>by
  have:b<X.w.heap.size:=by rw[Array.getElem?_eq_some_iff]at hb;exact hb.1
  exact⟨c,by simp only[Cx.add];rw[RowKit.Below.heap_alloc _ _ _ this];exact hb,rfl⟩
 map:=λb es n _ hb=>by
  have:b<X.w.heap.size:=by rw[Array.getElem?_eq_some_iff]at hb;exact hb.1
  simp only[Cx.add];rw[RowKit.Below.heap_alloc _ _ _ this];exact hb
theorem Goes.alloc(h:Inv X H){o g:Nat}(hg:X.β o g=none)(fz:Nat)(c:Col)(hc:c=.new\/c=.any)(xs:Array Value)(t:TypeId)(cs:List V)(hl:cs.length<=xs.size)(hr:RelC X (xs.toList.take cs.length) cs):
  Goes X H (X.add o g X.w.heap.size 0 (X.w.alloc (.cells xs t))) (upd H o (.cells c g fz cs)):=by
 have hle:=Z54 h hg (.cells xs t)
 have key:∀ o' c' g' f' cs',o'≠o->upd H o (.cells c g fz cs) o'=.cells c' g' f' cs'->H o'=.cells c' g' f' cs':=λo' c' g' f' cs' e hh=>by rwa [Zi _ _ e]at hh
 have keyβ : ∀ o' g' b bs,o'≠o->(X.add o g X.w.heap.size 0 (X.w.alloc (.cells xs t))).β o' g'=some (b,bs)->X.β o' g'=some (b,bs):=by
  intro o' g' b bs e hh;simp only[Cx.add]at hh;rwa [if_neg (λhh=>e hh.1)]at hh
 have self:∀ c' g' f' cs',upd H o (.cells c g fz cs) o=.cells c' g' f' cs'->c'=c/\g'=g/\f'=fz/\cs'=cs:=by
  intro c' g' f' cs' hh;simp at hh;obtain⟨rfl,rfl,rfl,rfl⟩:=hh;simp
 have selfβ : ∀ b bs,(X.add o g X.w.heap.size 0 (X.w.alloc (.cells xs t))).β o g=some (b,bs)->b=X.w.heap.size/\bs=0:=by
  intro b bs hh;simp[Cx.add]at hh;exact⟨hh.1.symm,hh.2.symm⟩
 have hkp:Keep (LiveB X H) X.w (X.add o g X.w.heap.size 0 (X.w.alloc (.cells xs t))).w:=⟨rfl,rfl,rfl,by simp[Cx.add],λk hk _=>RowKit.Below.heap_alloc _ _ _ hk⟩
 have hsub:∀ o' lo b ks vs,upd H o (.cells c g fz cs) o'=.mp lo b ks vs->H o'=.mp lo b ks vs:=λo' lo b ks vs hh=>by
  by_cases e:o'=o
  subst e;simp at hh;rwa [Zi _ _ e]at hh
 refine⟨⟨?_,?_,?_,?_,?_,h.thaw_le hle λ_ _ hs=>hs,h.mps_tr hle hsub hkp λ_ _ hs=>.inl hs,h.lps_tr Zd6 λb r hb=>RowKit.Below.heap_alloc _ _ _ (Array.getElem?_eq_some_iff.1 hb).1⟩,hle,hkp,λ_ _ hs=>.inl hs,?_⟩;intro o' c' g' f' cs' hh
 by_cases e:o'=o
 subst e;obtain⟨rfl,rfl,rfl,rfl⟩:=self _ _ _ _ hh;refine⟨X.w.heap.size,0,by simp[Cx.add],?_,xs,t,?_,zo,?_⟩
 rcases hc with rfl|rfl
 exact h.bw
 trivial
 show(X.w.heap.push _)[X.w.heap.size]?=_
 simp;simpa using hr.mono hle;have ho:=key _ _ _ _ _ e hh;obtain⟨b,bs,h1,h2,c'',t',h3,h4,h5⟩:=h.obj o' c' g' f' cs' ho;refine⟨b,bs,hle.β _ _ _ h1,h2,c'',t',?_,h4,h5.mono hle⟩;simp only[Cx.add];rw[RowKit.Below.heap_alloc _ _ _ (h.lt ho h1)];exact h3;intro o1 c1 g1 f1 l1 o2 c2 g2 f2 l2 b s1 s2 h1 h2 b1 b2
 by_cases e1:o1=o
 subst e1
 by_cases e2:o2=o1
 exact e2.symm;obtain⟨rfl,rfl,rfl,rfl⟩:=self _ _ _ _ h1;obtain⟨rfl,rfl⟩:=selfβ _ _ b1;have:=h.lt (key _ _ _ _ _ e2 h2) (keyβ _ _ _ _ e2 b2);omega
 by_cases e2:o2=o
 subst e2;obtain⟨rfl,rfl,rfl,rfl⟩:=self _ _ _ _ h2;obtain⟨rfl,rfl⟩:=selfβ _ _ b2;have:=h.lt (key _ _ _ _ _ e1 h1) (keyβ _ _ _ _ e1 b1);omega;exact h.inj _ _ _ _ _ _ _ _ _ _ _ _ _ (key _ _ _ _ _ e1 h1) (key _ _ _ _ _ e2 h2) (keyβ _ _ _ _ e1 b1) (keyβ _ _ _ _ e2 b2);intro b i hs;have hs':=h.safe b i hs;refine⟨by simp only[Cx.add,World.size_alloc];omega,λo' c' g' f' cs' bs' hh hb=>?_⟩
 by_cases e:o'=o
 subst e;obtain⟨rfl,rfl,rfl,rfl⟩:=self _ _ _ _ hh;obtain⟨rfl,rfl⟩:=selfβ _ _ hb;omega;exact hs'.2 _ _ _ _ _ _ (key _ _ _ _ _ e hh) (keyβ _ _ _ _ e hb);intro o';obtain⟨n,hn⟩:=h.fin o';refine⟨max n (g+1),λg' hg'=>?_⟩;simp only[Cx.add];rw[if_neg zo];exact hn g' zo;have:=h.bw;simp only[Cx.add,World.size_alloc];omega;refine Zmd (λo' b r ho=>.inr (.inr ⟨o',r,Zd6 _ _ _ ho⟩)) ?_;rintro b ⟨o',c',g',f',cs',bs',hh,hb⟩
 by_cases e:o'=o
 subst e;obtain⟨rfl,rfl,rfl,rfl⟩:=self _ _ _ _ hh;obtain⟨rfl,rfl⟩:=selfβ _ _ hb;exact .inl (Nat.le_refl _);exact .inr (.inl ⟨o',c',g',f',cs',bs',key _ _ _ _ _ e hh,keyβ _ _ _ _ e hb⟩)
theorem Zml(h:Inv X H){o g fz:Nat}{c:Col}{cs:List V}(ho:H o=.cells c g fz cs){b bs:Nat}(hβ : X.β o g=some (b,bs)){c1:Array Value}{t:TypeId}
  (hb:X.w.heap[b]?=some (Obj.cells c1 t (0,0))) (c2:Array Value) (hsz:c2.size=c1.size) (hsame:∀ i,i<bs+fz->c2[i]?=c1[i]?)
  (c':Col) (hcol:c'=c\/c'=.any) (g' bs' fz':Nat) (cs':List V) (hg:g'=g/\bs'=bs\/X.β o g'=none) (hfz:bs+fz<=bs'+fz') (hfit:bs'+cs'.length<=c2.size)
  (hr:RelC X ((c2.toList.drop bs').take cs'.length) cs'):
  Goes X H (X.add o g' b bs' (X.w.setRow b c2)) (upd H o (.cells c' g' fz' cs')):=by
 have hblt:b<X.w.heap.size:=h.lt ho hβ;have hb2:=setRow_heap X.w b c1 c2 t (0,0) hb
 have hle:X.le (X.add o g' b bs' (X.w.setRow b c2)):=by
  refine⟨?_,λ_ _ h=>h,?_,rfl,?_,λb1 es n _ hd=>by
   by_cases e:b1=b
   subst e;rw[hb]at hd;cases hd
   simp only[Cx.add];rw[setRow_other _ _ _ _ e];exact hd⟩
  intro o1 g1 p hp;simp only[Cx.add]
  split
  rename_i e;obtain⟨rfl,rfl⟩:=e
  rcases hg with ⟨rfl,rfl⟩|hg
  rw[<- hp,hβ];rw[hg]at hp;cases hp;exact hp;intro b1 i x hs hc
  by_cases e:b1=b
  subst e;have hi:=(h.safe _ _ hs).2 _ _ _ _ _ _ ho hβ
  have hc1:c1[i]?=some x:=by simpa[Cx.cell,World.cell?,hb]using hc
  simp[Cx.cell,Cx.add,World.cell?,hb2,hsame i hi,hc1];have:=setRow_other X.w b b1 c2 e;simpa[Cx.cell,Cx.add,World.cell?,this]using hc;intro b1 d t1 hd
  by_cases e:b1=b
  subst e;rw[hb]at hd;cases hd;exact⟨c2,by simpa[Cx.add]using hb2,hsz⟩;exact⟨d,by simp only[Cx.add];rw[setRow_other _ _ _ _ e];exact hd,rfl⟩
 have key:∀ o1 c1 g1 f1 l1,o1≠o->upd H o (.cells c' g' fz' cs') o1=.cells c1 g1 f1 l1->H o1=.cells c1 g1 f1 l1:=λo1 c1 g1 f1 l1 e hh=>by rwa [Zi _ _ e]at hh
 have keyβ : ∀ o1 g1 p,o1≠o->(X.add o g' b bs' (X.w.setRow b c2)).β o1 g1=some p->X.β o1 g1=some p:=by
  intro o1 g1 p e hh;simp only[Cx.add]at hh;rwa [if_neg (λhh=>e hh.1)]at hh
 have self:∀ c1 g1 f1 l1,upd H o (.cells c' g' fz' cs') o=.cells c1 g1 f1 l1->c1=c'/\g1=g'/\f1=fz'/\l1=cs':=by
  intro c1 g1 f1 l1 hh;simp at hh;obtain⟨rfl,rfl,rfl,rfl⟩:=hh;simp
 have selfβ : ∀ b1 s1,(X.add o g' b bs' (X.w.setRow b c2)).β o g'=some (b1,s1)->b1=b/\s1=bs':=by
  intro b1 s1 hh;simp[Cx.add]at hh;exact⟨hh.1.symm,hh.2.symm⟩
 have hkp:Keep (LiveB X H) X.w (X.add o g' b bs' (X.w.setRow b c2)).w:=⟨rfl,rfl,rfl,by simp[Cx.add],λk hk hn=>setRow_other _ _ _ _ (λe=>hn (by subst e;exact .inl ⟨o,c,g,fz,cs,bs,ho,hβ⟩))⟩
 have hsub:∀ o' lo b ks vs,upd H o (.cells c' g' fz' cs') o'=.mp lo b ks vs->H o'=.mp lo b ks vs:=λo' lo b ks vs hh=>by
  by_cases e:o'=o
  subst e;simp at hh;rwa [Zi _ _ e]at hh
 refine⟨⟨?_,?_,?_,?_,?_,h.thaw_le hle λ_ _ hs=>hs,h.mps_tr hle hsub hkp λ_ _ hs=>.inl hs,h.lps_tr Zd6 λb1 r h1=>setRow_other _ _ _ _ (λe=>by subst e;rw[hb]at h1;cases h1)⟩,hle,hkp,λ_ _ hs=>.inl hs,?_⟩;intro o1 d1 g1 f1 l1 hh
 by_cases e:o1=o
 subst e;obtain⟨rfl,rfl,rfl,rfl⟩:=self _ _ _ _ hh;obtain⟨b',bs1,hβ',hok,_⟩:=h.obj o1 c g fz cs ho;rw[hβ]at hβ';cases hβ';refine⟨b,bs',by simp[Cx.add],?_,c2,t,by simpa[Cx.add]using hb2,hfit,hr.mono hle⟩
 rcases hcol with rfl|rfl
 exact hok
 trivial
 have ho1:=key _ _ _ _ _ e hh;obtain⟨b1,bs1,h1,h2,c'',t',h3,h4,h5⟩:=h.obj o1 d1 g1 f1 l1 ho1;have hne:b1≠b:=λhh=>e (by subst hh;exact h.inj _ _ _ _ _ _ _ _ _ _ _ _ _ ho1 ho h1 hβ);exact⟨b1,bs1,hle.β _ _ _ h1,h2,c'',t',by simp only[Cx.add];rw[setRow_other _ _ _ _ hne];exact h3,h4,h5.mono hle⟩;intro o1 d1 g1 f1 l1 o2 d2 g2 f2 l2 b1 s1 s2 h1 h2 hb1 hb2'
 by_cases e1:o1=o
 subst e1
 by_cases e2:o2=o1
 exact e2.symm;obtain⟨rfl,rfl,rfl,rfl⟩:=self _ _ _ _ h1;obtain⟨rfl,rfl⟩:=selfβ _ _ hb1;exact h.inj _ _ _ _ _ _ _ _ _ _ _ _ _ ho (key _ _ _ _ _ e2 h2) hβ (keyβ _ _ _ e2 hb2')
 by_cases e2:o2=o
 subst e2;obtain⟨rfl,rfl,rfl,rfl⟩:=self _ _ _ _ h2;obtain⟨rfl,rfl⟩:=selfβ _ _ hb2';exact h.inj _ _ _ _ _ _ _ _ _ _ _ _ _ (key _ _ _ _ _ e1 h1) ho (keyβ _ _ _ e1 hb1) hβ;exact h.inj _ _ _ _ _ _ _ _ _ _ _ _ _ (key _ _ _ _ _ e1 h1) (key _ _ _ _ _ e2 h2) (keyβ _ _ _ e1 hb1) (keyβ _ _ _ e2 hb2');intro b1 i hs;have hs':=h.safe b1 i hs;refine⟨by simp only[Cx.add,setRow_size];exact hs'.1,λo1 d1 g1 f1 l1 s1 hh hb1=>?_⟩
 by_cases e:o1=o
 subst e;obtain⟨rfl,rfl,rfl,rfl⟩:=self _ _ _ _ hh;obtain⟨rfl,rfl⟩:=selfβ _ _ hb1;have:=hs'.2 _ _ _ _ _ _ ho hβ;omega;exact hs'.2 _ _ _ _ _ _ (key _ _ _ _ _ e hh) (keyβ _ _ _ e hb1);intro o';obtain⟨n,hn⟩:=h.fin o';refine⟨max n (g'+1),λg1 hg1=>?_⟩;simp only[Cx.add];rw[if_neg zo];exact hn g1 zo;have:=h.bw;simpa only[Cx.add,setRow_size]using this;refine Zmd (λo' b r ho=>.inr (.inr ⟨o',r,Zd6 _ _ _ ho⟩)) ?_;rintro b1 ⟨o1,d1,g1,f1,l1,s1,hh,hb1⟩
 by_cases e:o1=o
 subst e;obtain⟨rfl,rfl,rfl,rfl⟩:=self _ _ _ _ hh;obtain⟨rfl,rfl⟩:=selfβ _ _ hb1;exact .inr (.inl ⟨o1,c,g,fz,cs,bs,ho,hβ⟩);exact .inr (.inl ⟨o1,d1,g1,f1,l1,s1,key _ _ _ _ _ e hh,keyβ _ _ _ e hb1⟩)
end
section
variable{P:Program}{X:Cx}{H:Heap}
theorem RelC.get?{xs:List Value}{l:List V}(h:RelC X xs l){i:Nat}{v:V}(hv:l[i]?=some v):∃ x,xs[i]?=some x/\Rel X x v/\x.oneCell'=true:=by
 rw[List.getElem?_eq_some_iff]at hv;obtain⟨hi,rfl⟩:=hv;have hl:=h.len;exact⟨xs[i]'zo,by rw[List.getElem?_eq_getElem],h.rel i _ hi,h.one _ (List.getElem_mem _)⟩
theorem Inv.cells(h:Inv X H){o g fz:Nat}{c:Col}{cs:List V}(ho:H o=.cells c g fz cs){b bs:Nat}(hβ : X.β o g=some (b,bs)):
  ∃ (c1:Array Value) (t:TypeId),X.w.heap[b]?=some (Obj.cells c1 t (0,0))/\bs+cs.length<=c1.size/\RelC X ((c1.toList.drop bs).take cs.length) cs:=by
 obtain⟨b',bs',h1,_,h2⟩:=h.obj o c g fz cs ho;rw[hβ]at h1;cases h1;exact h2
theorem Zqh{w:World}{b i:Nat}{c1:Array Value}{t:TypeId}{fr:Nat×Nat}(hb:w.heap[b]?=some (Obj.cells c1 t fr)):w.cell? ⟨b,i,none⟩=c1[i]? := by
 simp[World.cell?,hb]
theorem Zic{c1:List Value}{bs n i:Nat}(hi:i<n):((c1.drop bs).take n)[i]?=c1[bs+i]? := by
 rw[List.getElem?_take_of_lt hi,List.getElem?_drop]
theorem Zz8{t:TypeId}{l:List V}{xs:List Value}{off:Nat}{v:V}(h:RelC X xs l)(hp:Zzj P t l off=some v){b o:Nat}
  (hc:∀ i x,xs[i]?=some x->X.w.cell? ⟨b,o+i,none⟩=some x):∃ c,(loadVar t ⟨b,o+off,none⟩).run P X.w=.ok c X.w/\Rel X c v:=by
 unfold Zzj at hp
 cases hb:Zof P t with
 |none=>simp[hb]at hp
 |some bb=>
  cases hs:Z9a P t with
  |none=>cases bb<;>simp[hb,hs]at hp
  |some n=>
   cases bb with
   |true=>
    simp only[hb,hs]at hp
    split at hp
    rename_i hle;simp at hp;subst hp;have hl:=h.len;have hR:RelC X ((xs.drop off).take n) ((l.drop off).take n):=(h.drop off).take n
    have hrun:=run_loadCells_list (P:=P) X.w ⟨b,o+off,none⟩ ((xs.drop off).take n) (λj x hj=>by
     rw[Addr.add_lit]
     have hjn:j<n:=by
      rw[List.getElem?_eq_some_iff]at hj;obtain⟨hj,_⟩:=hj;simp at hj;omega
     rw[Zic hjn]at hj;rw[Nat.add_assoc]
     exact hc _ _ hj)
    have hlen:((xs.drop off).take n).length=n:=zO;rw[hlen]at hrun;exact⟨.agg _,by simp[loadVar,Z5f hb,Zda hs,hrun],hR.toAgg⟩;simp at hp
   |false=>
    simp only[hb,hs]at hp
    split at hp
    rename_i h1 h2;simp at h1;obtain⟨x,hx,hr,_⟩:=h.get? hp;have:=hc off x hx;exact⟨x,by simp[loadVar,Z5f hb,this],hr⟩;simp at hp
def Zvb(P:Program)(H:Heap)(t:TypeId)(a:V):Option V:=
 match a with
 |.ptr o g off=>match H o with
  |.cells _ g' _ cs=>if g=g' then Zzj P t cs off else none
  |_=>none
 |a=>Zec P t a
theorem Ztu(h:Inv X H){t:TypeId}{a v:V}{x:Value}(hx:Rel X x a)(hv:Zvb P H t a=some v):∃ c,(Instr.loadAt t x).run P X.w=.ok c X.w/\Rel X c v:=by
 unfold Zvb at hv
 split at hv
 rename_i o g off
 split at hv
 rename_i c g' fz cs ho
 split at hv
 .rename_i e
  subst e
  cases hx with
  |ptr _ _ _ b bs hβ=>
   obtain⟨c1,t1,hb,hfit,hC⟩:=h.cells ho hβ
   obtain⟨r,hr,hrel⟩:=Zz8 hC hv (b:=b) (o:=bs) (λi x hi=>by
    rw[Zqh hb]
    have hin:i<cs.length:=by
     rw[List.getElem?_eq_some_iff]at hi;obtain⟨hi,_⟩:=hi;simp at hi;omega
    rw[Zic hin]at hi
    simpa using hi)
   exact⟨r,by simp[Instr.loadAt,Instr.sureAddr,hr],hrel⟩
 simp at hv;simp at hv;exact Zrl hx rfl hv
def Zsl(P:Program)(H:Heap)(t:TypeId)(a v:V):Option Heap:=
 match a with
 |.ptr o g off=>match H o with
  |.cells c g' fz cs=>if g=g'/\v.solid=true/\Z9a P t=some v.cells.length/\fz<=off/\off+v.cells.length<=cs.length then some (upd H o (.cells c g fz (setAt cs off v.cells)))else none
  |_=>none
 |_=>none
theorem Znu:∀ (vs xs:List Value) (off:Nat),off+vs.length<=xs.length->Zlj xs off vs=xs.take off++vs++xs.drop (off+vs.length)
 |[],xs,off,_=>by simp[Zlj]
 |v::r,xs,off,h=>by
  have h':off<xs.length:=by simp at h;omega
  rw[Zlj,Znu r (xs.set off v) (off+1) (by simp at h⊢;omega)]
  have e1:(xs.set off v).take (off+1)=xs.take off++[v]:=by
   rw[List.take_succ_eq_append_getElem (zu h'),List.take_set_of_le (Nat.le_refl _)];simp
  have e2:(xs.set off v).drop (off+1+r.length)=xs.drop (off+(v::r).length):=by
   rw[List.drop_set_of_lt zo]
   congr 1
   simp;omega
  rw[e1,e2];simp
theorem Zdo(L vs:List Value)(bs off n:Nat)(h1:off+vs.length<=n)(h2:bs+n<=L.length):
  ((L.take (bs+off)++vs++L.drop (bs+off+vs.length)).drop bs).take n=((L.drop bs).take n).take off++vs++((L.drop bs).take n).drop (off+vs.length):=by
 rw[List.append_assoc,List.drop_append_of_le_length zO,List.drop_take,List.take_append,List.take_append];have e1:((L.drop bs).take (bs+off-bs)).length=off:=zO;rw[e1,List.take_take,List.take_take,List.drop_take,List.append_assoc,List.drop_drop];rw[show min n (bs+off-bs)=off by omega,show min off n=off by omega];have e2:vs.take (n-off)=vs:=List.take_of_length_le zo;rw[e2];rw[show n-off-vs.length=n-(off+vs.length) by omega,show bs+off+vs.length=bs+(off+vs.length) by omega]
theorem Z6t(h:Inv X H){o g fz off:Nat}{c:Col}{cs:List V}(ho:H o=.cells c g fz cs){b bs:Nat}(hβ : X.β o g=some (b,bs)){vs:List Value}{ms:List V}(hvs:RelC X vs ms)
  (hfz:fz<=off) (hoff:off+ms.length<=cs.length):
  ∃ Y,(storeCells ⟨b,bs+off,none⟩ vs).run P X.w=.ok () Y.w/\Goes X H Y (upd H o (.cells c g fz (setAt cs off ms))):=by
 obtain⟨c1,t,hb,hfit,hC⟩:=h.cells ho hβ;have hl:=hvs.len;have hcs:cs.length<=c1.size-bs:=zo;have hrun:=run_storeCells_at (P:=P) b (bs+off) t vs 0 c1 X.w hb zo hvs.one;simp only[Nat.add_zero]at hrun
 let c2:Array Value:=(c1.toList.take (bs+off)++vs++c1.toList.drop (bs+off+vs.length)).toArray
 have hc2s:c2.size=c1.size:=by simp[c2];omega
 have hc2:(c2.toList.drop bs).take cs.length=Zlj ((c1.toList.drop bs).take cs.length) off vs:=by
  rw[Znu _ _ _ zO];exact Zdo c1.toList vs bs off cs.length zo zO
 refine⟨X.add o g b bs (X.w.setRow b c2),hrun,?_⟩;refine Zml h ho hβ hb c2 hc2s ?_ c (.inl rfl) g bs fz _ (.inl ⟨rfl,rfl⟩) (Nat.le_refl _) (by rw[Zjf];omega) ?_;intro i hi;simp only[c2];rw[List.getElem?_toArray,List.append_assoc,List.getElem?_append_left zO,List.getElem?_take_of_lt zo];simp;rw[Zjf,hc2];exact Zll off hC hvs
theorem Z17(h:Inv X H){t:TypeId}{a v:V}{x y:Value}(hx:Rel X x a)(hy:Rel X y v){H':Heap}(hs:Zsl P H t a v=some H'):
  ∃ Y,(Instr.storeAt t x y).run P X.w=.ok () Y.w/\Goes X H Y H':=by
 unfold Zsl at hs
 split at hs
 rename_i o g off
 split at hs
 rename_i c g' fz cs ho
 split at hs
 .rename_i hc
  obtain⟨rfl,h1,h2,h3,h4⟩:=hc;simp at hs;subst hs
  cases hx with
  |ptr _ _ _ b bs hβ=>
   have hC:=hy.toC h1;obtain⟨Y,hrun,hg⟩:=Z6t (P:=P) h ho hβ hC h3 h4;refine⟨Y,?_,hg⟩;have hlen:=hC.len;simp at hlen;simp[Instr.storeAt,Instr.sureAddr,storeVar,Zda h2,hlen,hrun]
 simp at hs;simp at hs;simp at hs
theorem Zxfa(h:Inv X H)(o:Nat)(t:TypeId){xs:Array Value}{cs:List V}(hC:RelC X xs.toList cs){K:V->Heap->Prop}(mk:Nat->V)
  (hmk:∀ Y g,Y.β o g=some (X.w.heap.size,0)->Y.w.heap[X.w.heap.size]?=some (Obj.cells xs t (0,0))->Rel Y (.pointer (some ⟨X.w.heap.size,0,none⟩)) (.ptr o g 0))
  (hK:∀ g,K (mk g) (upd H o (.cells .new g 0 cs))):
  ∃ Y g,(newRow t xs).run P X.w=.ok ⟨X.w.heap.size,0,none⟩ Y.w/\Goes X H Y (upd H o (.cells .new g 0 cs))/\Y.β o g=some (X.w.heap.size,0) /\
   Y.w.heap[X.w.heap.size]?=some (Obj.cells xs t (0,0))/\K (mk g) (upd H o (.cells .new g 0 cs)):=by
 obtain⟨n,hn⟩:=h.fin o;have hl:=hC.len;refine⟨X.add o n X.w.heap.size 0 (X.w.alloc (.cells xs t)),n,?_,Goes.alloc h (hn n (Nat.le_refl _)) 0 .new (.inl rfl) xs t cs (by simp at hl;omega) ?_,by simp[Cx.add],?_,hK n⟩;simp[newRow,Cx.add];rw[<- hl,List.take_length];exact hC
 show(X.w.heap.push _)[X.w.heap.size]?=_
 simp
theorem Z5q(h:Inv X H)(o:Nat)(t:TypeId){x:Value}{v:V}(hx:Rel X x v)(hs:v.solid=true){K:V->Heap->Prop}(hK:∀ g,K (.ptr o g 0) (upd H o (.cells .new g 0 v.cells))):
  ∃ c u Y H',(newVar t x).run P X.w=.ok c Y.w/\Goes X H Y H'/\Rel Y (.pointer (some c)) u/\K u H':=by
 obtain⟨Y,g,h1,h2,h3,h4,h5⟩:=Zxfa (P:=P) h o t (hx.toC hs) (K:=K) (λg=>.ptr o g 0) (λY g hb _=>by simpa using Rel.ptr o g 0 _ 0 hb) hK;exact⟨_,_,Y,_,h1,h2,by simpa using Rel.ptr o g 0 _ 0 h3,h5⟩
end
end Go.Hs
