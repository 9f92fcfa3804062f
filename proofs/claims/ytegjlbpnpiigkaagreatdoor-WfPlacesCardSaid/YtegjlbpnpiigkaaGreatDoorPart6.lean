/- Part 6 of a proof; no condition. -/
import Derived.Test.YtegjlbpnpiigkaaGreatDoorPart5
import Derived.Laws.CopyRow
set_option linter.unusedSimpArgs false
set_option linter.unusedVariables false
section
namespace Go.Hs
section
variable {P:Program} {X:Cx} {H:Heap}
theorem Inv.lt {o:Nat} (h:Inv X H) {c:Col} {g fz:Nat} {cs:List V} (ho:H o = .cells c g fz cs) {b bs:Nat} (hβ : X.β o g=some (b,bs)):b<X.w.heap.size:=by
 obtain ⟨b',bs',hβ',_,c',t,hb,_⟩:=h.obj o c g fz cs ho;rw [hβ] at hβ';cases hβ';rw [Array.getElem?_eq_some_iff] at hb;exact hb.1
theorem Inv.thaw_le {Y:Cx} (h:Inv X H) (hle:X.le Y) (hS:∀ b i,Y.S b i→X.S b i):∀ b i,Y.S b i→Y.base≤b→(∃ c t,Y.w.heap[b]? = some (Obj.cells c t (0,0)))∨(i=0∧∃ es n,Y.w.heap[b]? = some (Obj.map es n)):=by
 intro b i hs hb;rw [hle.base] at hb
 rcases h.thaw b i (hS b i hs) hb with ⟨c,t,h1⟩ | ⟨rfl,es,n,h1⟩
 ·obtain ⟨c',h2,_⟩:=hle.blk b c t h1
  exact .inl ⟨c',t,h2⟩
 ·exact .inr ⟨rfl,es,n,hle.map b es n (hS b 0 hs) h1⟩
theorem Inv.live_thaw (h:Inv X H) {b:Nat} (hl:LiveB X H b):∃ c t,X.w.heap[b]? = some (Obj.cells c t (0,0)):=by
 obtain ⟨o,c,g,fz,cs,bs,ho,hβ⟩:=hl;obtain ⟨b',bs',hβ',_,c',t,hb,_⟩:=h.obj o c g fz cs ho;rw [hβ] at hβ';cases hβ';exact ⟨c',t,hb⟩
theorem LiveB.lt (h:Inv X H) {b:Nat} (hl:LiveB X H b):b<X.w.heap.size:=by
 obtain ⟨o,c,g,fz,cs,bs,ho,hβ⟩:=hl;exact h.lt ho hβ
theorem Goes.drew (h:Inv X H) (n:Nat):Goes X H { X with w:={ X.w with drawn:=n } } H:=by
 have hle:X.le { X with w:={ X.w with drawn:=n } }:=⟨fun _ _ _ h=>h,fun _ _ h=>h,fun _ _ _ _ h=>h,rfl,fun _ c _ h=>⟨c,h,rfl⟩,fun _ _ _ _ h=>h⟩;have hkp:Keep (LiveB X H) X.w ({ X.w with drawn:=n }:World):=⟨rfl,rfl,rfl,Nat.le_refl _,fun _ _ _=>rfl⟩;refine ⟨⟨?_,h.inj,h.safe,h.fin,h.bw,h.thaw,h.mps_tr hle (fun _ _ _ _ _ h=>h) hkp fun _ _ hs => .inl hs⟩,hle,hkp,fun _ _ hs => .inl hs,fun _ hb => .inr hb⟩;intro o c g fz cs ho;obtain ⟨b,bs,h1,h2,c',t,h3,h4,h5⟩:=h.obj o c g fz cs ho;exact ⟨b,bs,h1,h2,c',t,h3,h4,h5.mono hle⟩
theorem Goes.sub (h:Inv X H) {H':Heap} (hs:∀ o,H' o = .dead∨H' o=H o):Goes X H X H':=by
 have key:∀ o c g fz cs,H' o = .cells c g fz cs→H o = .cells c g fz cs:=by
  intro o c g fz cs ho
  rcases hs o with h1 | h1
  ·rw [h1] at ho;cases ho
  ·rw [← h1,ho]
 refine ⟨⟨?_,?_,?_,h.fin,h.bw,h.thaw,h.mps_tr (.refl X) (fun o lo b ks vs ho=>by rcases hs o with h1 | h1<;>rw [h1] at ho;cases ho;exact ho) (Keep.refl _ _) fun _ _ hs => .inl hs⟩,Cx.le.refl X,Keep.refl _ _,fun _ _ hs => .inl hs,?_⟩
 ·exact fun o c g fz cs ho=>h.obj o c g fz cs (key _ _ _ _ _ ho)
 ·exact fun o1 c1 g1 f1 l1 o2 c2 g2 f2 l2 b s1 s2 h1 h2=>h.inj o1 c1 g1 f1 l1 o2 c2 g2 f2 l2 b s1 s2 (key _ _ _ _ _ h1) (key _ _ _ _ _ h2)
 ·exact fun b i hsb=>⟨(h.safe b i hsb).1,fun o c g fz cs bs ho=>(h.safe b i hsb).2 o c g fz cs bs (key _ _ _ _ _ ho)⟩
 ·rintro b ⟨o,c,g,fz,cs,bs,ho,hβ⟩
  exact .inr ⟨o,c,g,fz,cs,bs,key _ _ _ _ _ ho,hβ⟩
def Cx.add (X:Cx) (o g b bs:Nat) (w:World):Cx:={ X with β := fun o' g'=>if o'=o∧g'=g then some (b,bs) else X.β o' g',w:=w }
theorem Zux (h:Inv X H) {o g:Nat} (hg:X.β o g=none) (ob:Obj):X.le (X.add o g X.w.heap.size 0 (X.w.alloc ob)) where
 β := fun o' g' p hp=>by
  simp only [Cx.add]
  split
  ·rename_i e;obtain ⟨rfl,rfl⟩:=e;rw [hg] at hp;cases hp
  ·exact hp
 S:=fun _ _ h=>h
 cell:=fun b i x _ hc=>by
  have:=World.block_lt_of_cell? _ _ hc;exact (World.cell?_alloc_lt X.w ob ⟨b,i,none⟩ this).trans hc
 base:=rfl
 blk:=fun b c t hb=>by
  have:b<X.w.heap.size:=by rw [Array.getElem?_eq_some_iff] at hb;exact hb.1
  exact ⟨c,by simp only [Cx.add];rw [RowKit.Below.heap_alloc _ _ _ this];exact hb,rfl⟩
 map:=fun b es n _ hb=>by
  have:b<X.w.heap.size:=by rw [Array.getElem?_eq_some_iff] at hb;exact hb.1
  simp only [Cx.add];rw [RowKit.Below.heap_alloc _ _ _ this];exact hb
theorem Goes.alloc (h:Inv X H) {o g:Nat} (hg:X.β o g=none) (fz:Nat) (c:Col) (hc:c = .new∨c = .any) (xs:Array Value) (t:TypeId) (cs:List V) (hl:cs.length≤xs.size) (hr:RelC X (xs.toList.take cs.length) cs) :
  Goes X H (X.add o g X.w.heap.size 0 (X.w.alloc (.cells xs t))) (upd H o (.cells c g fz cs)):=by
 have hle:=Zux h hg (.cells xs t)
 have key:∀ o' c' g' f' cs',o'≠o→upd H o (.cells c g fz cs) o' = .cells c' g' f' cs'→H o' = .cells c' g' f' cs':=fun o' c' g' f' cs' e hh=>by rwa [Zfb _ _ e] at hh
 have keyβ : ∀ o' g' b bs,o'≠o→(X.add o g X.w.heap.size 0 (X.w.alloc (.cells xs t))).β o' g'=some (b,bs)→X.β o' g'=some (b,bs):=by
  intro o' g' b bs e hh;simp only [Cx.add] at hh;rwa [if_neg (fun hh=>e hh.1)] at hh
 have self:∀ c' g' f' cs',upd H o (.cells c g fz cs) o = .cells c' g' f' cs'→c'=c∧g'=g∧f'=fz∧cs'=cs:=by
  intro c' g' f' cs' hh;simp at hh;obtain ⟨rfl,rfl,rfl,rfl⟩:=hh;simp
 have selfβ : ∀ b bs,(X.add o g X.w.heap.size 0 (X.w.alloc (.cells xs t))).β o g=some (b,bs)→b=X.w.heap.size∧bs=0:=by
  intro b bs hh;simp [Cx.add] at hh;exact ⟨hh.1.symm,hh.2.symm⟩
 have hkp:Keep (LiveB X H) X.w (X.add o g X.w.heap.size 0 (X.w.alloc (.cells xs t))).w:=⟨rfl,rfl,rfl,by simp [Cx.add],fun k hk _=>RowKit.Below.heap_alloc _ _ _ hk⟩
 have hsub:∀ o' lo b ks vs,upd H o (.cells c g fz cs) o' = .mp lo b ks vs→H o' = .mp lo b ks vs:=fun o' lo b ks vs hh=>by
  by_cases e:o'=o
  ·subst e;simp at hh
  ·rwa [Zfb _ _ e] at hh
 refine ⟨⟨?_,?_,?_,?_,?_,h.thaw_le hle fun _ _ hs=>hs,h.mps_tr hle hsub hkp fun _ _ hs => .inl hs⟩,hle,hkp,fun _ _ hs => .inl hs,?_⟩
 ·intro o' c' g' f' cs' hh
  by_cases e:o'=o
  ·subst e
   obtain ⟨rfl,rfl,rfl,rfl⟩:=self _ _ _ _ hh;refine ⟨X.w.heap.size,0,by simp [Cx.add],?_,xs,t,?_,by omega,?_⟩
   ·rcases hc with rfl | rfl
    ·exact h.bw
    ·trivial
   ·show (X.w.heap.push _)[X.w.heap.size]? = _
    simp
   ·simpa using hr.mono hle
  ·have ho:=key _ _ _ _ _ e hh
   obtain ⟨b,bs,h1,h2,c'',t',h3,h4,h5⟩:=h.obj o' c' g' f' cs' ho;refine ⟨b,bs,hle.β _ _ _ h1,h2,c'',t',?_,h4,h5.mono hle⟩;simp only [Cx.add];rw [RowKit.Below.heap_alloc _ _ _ (h.lt ho h1)];exact h3
 ·intro o1 c1 g1 f1 l1 o2 c2 g2 f2 l2 b s1 s2 h1 h2 b1 b2
  by_cases e1:o1=o
  ·subst e1
   by_cases e2:o2=o1
   ·exact e2.symm
   ·obtain ⟨rfl,rfl,rfl,rfl⟩:=self _ _ _ _ h1
    obtain ⟨rfl,rfl⟩:=selfβ _ _ b1;have:=h.lt (key _ _ _ _ _ e2 h2) (keyβ _ _ _ _ e2 b2);omega
  ·by_cases e2:o2=o
   ·subst e2
    obtain ⟨rfl,rfl,rfl,rfl⟩:=self _ _ _ _ h2;obtain ⟨rfl,rfl⟩:=selfβ _ _ b2;have:=h.lt (key _ _ _ _ _ e1 h1) (keyβ _ _ _ _ e1 b1);omega
   ·exact h.inj _ _ _ _ _ _ _ _ _ _ _ _ _ (key _ _ _ _ _ e1 h1) (key _ _ _ _ _ e2 h2) (keyβ _ _ _ _ e1 b1) (keyβ _ _ _ _ e2 b2)
 ·intro b i hs
  have hs':=h.safe b i hs;refine ⟨by simp only [Cx.add,World.size_alloc];omega,fun o' c' g' f' cs' bs' hh hb=>?_⟩
  by_cases e:o'=o
  ·subst e
   obtain ⟨rfl,rfl,rfl,rfl⟩:=self _ _ _ _ hh;obtain ⟨rfl,rfl⟩:=selfβ _ _ hb;omega
  ·exact hs'.2 _ _ _ _ _ _ (key _ _ _ _ _ e hh) (keyβ _ _ _ _ e hb)
 ·intro o'
  obtain ⟨n,hn⟩:=h.fin o';refine ⟨max n (g+1),fun g' hg'=>?_⟩;simp only [Cx.add];rw [if_neg (by omega)];exact hn g' (by omega)
 ·have:=h.bw
  simp only [Cx.add,World.size_alloc];omega
 ·rintro b ⟨o',c',g',f',cs',bs',hh,hb⟩
  by_cases e:o'=o
  ·subst e
   obtain ⟨rfl,rfl,rfl,rfl⟩:=self _ _ _ _ hh;obtain ⟨rfl,rfl⟩:=selfβ _ _ hb;exact .inl (Nat.le_refl _)
  ·exact .inr ⟨o',c',g',f',cs',bs',key _ _ _ _ _ e hh,keyβ _ _ _ _ e hb⟩
theorem Z3q (h:Inv X H) {o g fz:Nat} {c:Col} {cs:List V} (ho:H o = .cells c g fz cs) {b bs:Nat} (hβ : X.β o g=some (b,bs)) {c1:Array Value} {t:TypeId}
  (hb:X.w.heap[b]? = some (Obj.cells c1 t (0,0))) (c2:Array Value) (hsz:c2.size=c1.size) (hsame:∀ i,i<bs+fz→c2[i]? = c1[i]?)
  (c':Col) (hcol:c'=c∨c' = .any) (g' bs' fz':Nat) (cs':List V) (hg:g'=g∧bs'=bs∨X.β o g'=none) (hfz:bs+fz≤bs'+fz') (hfit:bs'+cs'.length≤c2.size)
  (hr:RelC X ((c2.toList.drop bs').take cs'.length) cs') :
  Goes X H (X.add o g' b bs' (X.w.setRow b c2)) (upd H o (.cells c' g' fz' cs')):=by
 have hblt:b<X.w.heap.size:=h.lt ho hβ;have hb2:=setRow_heap X.w b c1 c2 t (0,0) hb
 have hle:X.le (X.add o g' b bs' (X.w.setRow b c2)):=by
  refine ⟨?_,fun _ _ h=>h,?_,rfl,?_,fun b1 es n _ hd=>by
   by_cases e:b1=b
   ·subst e;rw [hb] at hd;cases hd
   ·simp only [Cx.add];rw [setRow_other _ _ _ _ e];exact hd⟩
  ·intro o1 g1 p hp
   simp only [Cx.add]
   split
   ·rename_i e
    obtain ⟨rfl,rfl⟩:=e
    rcases hg with ⟨rfl,rfl⟩ | hg
    ·rw [← hp,hβ]
    ·rw [hg] at hp;cases hp
   ·exact hp
  ·intro b1 i x hs hc
   by_cases e:b1=b
   ·subst e
    have hi:=(h.safe _ _ hs).2 _ _ _ _ _ _ ho hβ
    have hc1:c1[i]? = some x:=by simpa [Cx.cell,World.cell?,hb] using hc
    simp [Cx.cell,Cx.add,World.cell?,hb2,hsame i hi,hc1]
   ·have:=setRow_other X.w b b1 c2 e
    simpa [Cx.cell,Cx.add,World.cell?,this] using hc
  ·intro b1 d t1 hd
   by_cases e:b1=b
   ·subst e
    rw [hb] at hd;cases hd;exact ⟨c2,by simpa [Cx.add] using hb2,hsz⟩
   ·exact ⟨d,by simp only [Cx.add];rw [setRow_other _ _ _ _ e];exact hd,rfl⟩
 have key:∀ o1 c1 g1 f1 l1,o1≠o→upd H o (.cells c' g' fz' cs') o1 = .cells c1 g1 f1 l1→H o1 = .cells c1 g1 f1 l1:=fun o1 c1 g1 f1 l1 e hh=>by rwa [Zfb _ _ e] at hh
 have keyβ : ∀ o1 g1 p,o1≠o→(X.add o g' b bs' (X.w.setRow b c2)).β o1 g1=some p→X.β o1 g1=some p:=by
  intro o1 g1 p e hh;simp only [Cx.add] at hh;rwa [if_neg (fun hh=>e hh.1)] at hh
 have self:∀ c1 g1 f1 l1,upd H o (.cells c' g' fz' cs') o = .cells c1 g1 f1 l1→c1=c'∧g1=g'∧f1=fz'∧l1=cs':=by
  intro c1 g1 f1 l1 hh;simp at hh;obtain ⟨rfl,rfl,rfl,rfl⟩:=hh;simp
 have selfβ : ∀ b1 s1,(X.add o g' b bs' (X.w.setRow b c2)).β o g'=some (b1,s1)→b1=b∧s1=bs':=by
  intro b1 s1 hh;simp [Cx.add] at hh;exact ⟨hh.1.symm,hh.2.symm⟩
 have hkp:Keep (LiveB X H) X.w (X.add o g' b bs' (X.w.setRow b c2)).w:=⟨rfl,rfl,rfl,by simp [Cx.add],fun k hk hn=>setRow_other _ _ _ _ (fun e=>hn (by subst e;exact ⟨o,c,g,fz,cs,bs,ho,hβ⟩))⟩
 have hsub:∀ o' lo b ks vs,upd H o (.cells c' g' fz' cs') o' = .mp lo b ks vs→H o' = .mp lo b ks vs:=fun o' lo b ks vs hh=>by
  by_cases e:o'=o
  ·subst e;simp at hh
  ·rwa [Zfb _ _ e] at hh
 refine ⟨⟨?_,?_,?_,?_,?_,h.thaw_le hle fun _ _ hs=>hs,h.mps_tr hle hsub hkp fun _ _ hs => .inl hs⟩,hle,hkp,fun _ _ hs => .inl hs,?_⟩
 ·intro o1 d1 g1 f1 l1 hh
  by_cases e:o1=o
  ·subst e
   obtain ⟨rfl,rfl,rfl,rfl⟩:=self _ _ _ _ hh;obtain ⟨b',bs1,hβ',hok,_⟩:=h.obj o1 c g fz cs ho;rw [hβ] at hβ';cases hβ';refine ⟨b,bs',by simp [Cx.add],?_,c2,t,by simpa [Cx.add] using hb2,hfit,hr.mono hle⟩
   rcases hcol with rfl | rfl
   ·exact hok
   ·trivial
  ·have ho1:=key _ _ _ _ _ e hh
   obtain ⟨b1,bs1,h1,h2,c'',t',h3,h4,h5⟩:=h.obj o1 d1 g1 f1 l1 ho1;have hne:b1≠b:=fun hh=>e (by subst hh;exact h.inj _ _ _ _ _ _ _ _ _ _ _ _ _ ho1 ho h1 hβ);exact ⟨b1,bs1,hle.β _ _ _ h1,h2,c'',t',by simp only [Cx.add];rw [setRow_other _ _ _ _ hne];exact h3,h4,h5.mono hle⟩
 ·intro o1 d1 g1 f1 l1 o2 d2 g2 f2 l2 b1 s1 s2 h1 h2 hb1 hb2'
  by_cases e1:o1=o
  ·subst e1
   by_cases e2:o2=o1
   ·exact e2.symm
   ·obtain ⟨rfl,rfl,rfl,rfl⟩:=self _ _ _ _ h1
    obtain ⟨rfl,rfl⟩:=selfβ _ _ hb1;exact h.inj _ _ _ _ _ _ _ _ _ _ _ _ _ ho (key _ _ _ _ _ e2 h2) hβ (keyβ _ _ _ e2 hb2')
  ·by_cases e2:o2=o
   ·subst e2
    obtain ⟨rfl,rfl,rfl,rfl⟩:=self _ _ _ _ h2;obtain ⟨rfl,rfl⟩:=selfβ _ _ hb2';exact h.inj _ _ _ _ _ _ _ _ _ _ _ _ _ (key _ _ _ _ _ e1 h1) ho (keyβ _ _ _ e1 hb1) hβ
   ·exact h.inj _ _ _ _ _ _ _ _ _ _ _ _ _ (key _ _ _ _ _ e1 h1) (key _ _ _ _ _ e2 h2) (keyβ _ _ _ e1 hb1) (keyβ _ _ _ e2 hb2')
 ·intro b1 i hs
  have hs':=h.safe b1 i hs;refine ⟨by simp only [Cx.add,setRow_size];exact hs'.1,fun o1 d1 g1 f1 l1 s1 hh hb1=>?_⟩
  by_cases e:o1=o
  ·subst e
   obtain ⟨rfl,rfl,rfl,rfl⟩:=self _ _ _ _ hh;obtain ⟨rfl,rfl⟩:=selfβ _ _ hb1;have:=hs'.2 _ _ _ _ _ _ ho hβ;omega
  ·exact hs'.2 _ _ _ _ _ _ (key _ _ _ _ _ e hh) (keyβ _ _ _ e hb1)
 ·intro o'
  obtain ⟨n,hn⟩:=h.fin o';refine ⟨max n (g'+1),fun g1 hg1=>?_⟩;simp only [Cx.add];rw [if_neg (by omega)];exact hn g1 (by omega)
 ·have:=h.bw
  simpa only [Cx.add,setRow_size] using this
 ·rintro b1 ⟨o1,d1,g1,f1,l1,s1,hh,hb1⟩
  by_cases e:o1=o
  ·subst e
   obtain ⟨rfl,rfl,rfl,rfl⟩:=self _ _ _ _ hh;obtain ⟨rfl,rfl⟩:=selfβ _ _ hb1;exact .inr ⟨o1,c,g,fz,cs,bs,ho,hβ⟩
  ·exact .inr ⟨o1,d1,g1,f1,l1,s1,key _ _ _ _ _ e hh,keyβ _ _ _ e hb1⟩
end
end Go.Hs
end
