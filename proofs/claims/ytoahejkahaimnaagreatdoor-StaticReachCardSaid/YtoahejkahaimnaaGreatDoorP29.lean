/- A part. No condition. -/
import Derived.Test.YtoahejkahaimnaaGreatDoorP28
set_option linter.all false
namespace Go.Hs
section
variable{P:Program}
inductive Sh where
 |lit (k:IntKind) (n:Int)
 |int (k:IntKind)
 |str
 |row (ag:Bool) (E M:Nat) (c:Nat->Sh)
 |rowN (ag hd:Bool) (E N:Nat) (c:Nat->Sh)
 |ptr (ag hd:Bool) (E:Nat) (c:Nat->Sh)
 |agg (E:Nat) (c:Nat->Sh)
def Blk(w:World)(b:Nat):Prop:=∃ c t,w.heap[b]?=some (Obj.cells c t (0,0))
def zone(B C:Nat)(hd:Bool)(b:Nat):Prop:=if hd then C<=b else B<=b/\b<C
def Kd(w:World)(B C:Nat):Sh->Value->Prop
 |.lit k n,x=>x=.int k n
 |.int k,x=>∃ n,x=.int k n
 |.str,x=>∃ s,x=.string s
 |.row _ E M c,x=>x=.slice none 0 0\/(∃ a,x=.slice (some a) 0 0)\/∃ b off len cap,x=.slice (some ⟨b,off,none⟩) len cap/\len<=cap/\len<=M /\
   ∀ j i,j<len->i<E->zone B C false b/\Blk w b/\∃ y,w.cell? ⟨b,off+(j*E+i),none⟩=some y/\y.oneCell'=true/\Kd w B C (c i) y
 |.rowN _ hd E M c,x=>(x=.slice none 0 0/\M=0)\/(∃ a,x=.slice (some a) 0 0/\M=0)\/∃ b off len cap,x=.slice (some ⟨b,off,none⟩) len cap/\len<=cap/\len=M /\
   ∀ j i,j<len->i<E->zone B C hd b/\Blk w b/\∃ y,w.cell? ⟨b,off+(j*E+i),none⟩=some y/\y.oneCell'=true/\Kd w B C (c i) y
 |.ptr _ hd E c,x=>∃ b off,x=.pointer (some ⟨b,off,none⟩)/\∀ i,i<E->zone B C hd b/\Blk w b/\∃ y,w.cell? ⟨b,off+i,none⟩=some y/\y.oneCell'=true/\Kd w B C (c i) y
 |.agg E c,x=>∃ l:Array Value,x=.agg l/\l.size=E/\∀ i (h:i<l.size),l[i].oneCell'=true/\Kd w B C (c i) l[i]
def mkV(ag:Bool)(l:List V):V:=if ag then .agg l else match l with|[v]=>v|l=>.agg l
def zc(cs ch:Col)(hd:Bool):Col:=if hd then ch else cs
def ShV(cs ch:Col):Sh->V->Prop
 |.lit k n,v=>v=.int k n
 |.int k,v=>∃ n,v=.int k n
 |.str,v=>∃ s,v=.str s
 |.row ag E M c,v=>v=.nils\/∃ clip l,v=.slice cs clip E l/\l.length<=M/\∀ u∈l,u.cells.length=E/\u=mkV ag u.cells/\∀ i (h:i<u.cells.length),ShV cs ch (c i) u.cells[i]
 |.rowN ag hd E M c,v=>(v=.nils/\M=0)\/∃ clip l,v=.slice (zc cs ch hd) clip E l/\l.length=M/\∀ u∈l,u.cells.length=E/\u=mkV ag u.cells/\∀ i (h:i<u.cells.length),ShV cs ch (c i) u.cells[i]
 |.ptr ag hd E c,v=>∃ u,v=.view (zc cs ch hd) u/\u.cells.length=E/\u=mkV ag u.cells/\∀ i (h:i<u.cells.length),ShV cs ch (c i) u.cells[i]
 |.agg E c,v=>∃ l,v=.agg l/\l.length=E/\∀ i (h:i<l.length),ShV cs ch (c i) l[i]
def Sh.free:Sh->Prop
 |.lit _ _=>False
 |.int _=>True
 |.str=>True
 |.row _ E _ c=>∀ i,i<E->(c i).free
 |.rowN _ _ _ _ _=>False
 |.ptr _ hd E c=>hd=false/\∀ i,i<E->(c i).free
 |.agg E c=>∀ i,i<E->(c i).free
theorem Zgh{X:Cx}{B C:Nat}{cs ch:Col}(hso:∀ b i x,X.S b i->cs.ok X.base b->X.cell b i=some x->(B<=b/\b<C)/\Blk X.w b):∀ {s:Sh} {x:Value} {v:V} (hha:(∀ b i x,X.S b i->ch.ok X.base b->X.cell b i=some x->C<=b/\Blk X.w b)\/s.free),Rel X x v->ShV cs ch s v->Kd X.w B C s x
 |.lit k n,x,v,_,h,hs=>by simp only[ShV]at hs;subst hs;exact h.int_inv
 |.int k,x,v,_,h,hs=>by obtain⟨n,rfl⟩:=hs;exact⟨n,h.int_inv⟩
 |.str,x,v,_,h,hs=>by obtain⟨n,rfl⟩:=hs;obtain⟨s,hs,_⟩:=h.str_inv;exact⟨s,hs⟩
 |.row ag E M c,x,v,hha,h,hs=>by
  rcases hs with rfl|⟨clip,l,rfl,hl,hu⟩
  cases h;exact .inl rfl
  .cases h with
   |slice0 _ _ _ a=>exact .inr (.inl ⟨a,rfl⟩)
   |slice _ _ _ _ b off cap f hcap hclip hE hc hr=>
    refine .inr (.inr ⟨b,off,l.length,cap,rfl,hcap,hl,λj i hj hi=>?_⟩)
    have hle:j*E+i<(flat l).length:=by
     rw[Zsb hE]
     calc j*E+i<j*E+E:=zo
      _=(j+1)*E:=by rw[Nat.succ_mul]
      _<=l.length*E:=Nat.mul_le_mul_right E hj
    obtain⟨h1,h2,h3,h4⟩:=hc _ hle;obtain⟨hu1,hu2,hu3⟩:=hu _ (List.getElem_mem hj);have e:=Zpg hE j i hj hi;rw[List.getElem?_eq_getElem hle,List.getElem?_eq_getElem zo]at e;have hr':=hr _ hle;rw[Option.some.inj e]at hr';obtain⟨q1,q2⟩:=hso _ _ _ h1 h2 h3;exact⟨q1,q2,_,h3,h4,Zgh hso (hha.imp id λhf=>hf i hi) hr' (hu3 i zo)⟩
 |.rowN ag hd E M c,x,v,hha,h,hs=>by
  rcases hs with ⟨rfl,h0⟩|⟨clip,l,rfl,hl,hu⟩
  cases h;exact .inl ⟨rfl,h0⟩
  .have hh2:∀ b i x,X.S b i->ch.ok X.base b->X.cell b i=some x->C<=b/\Blk X.w b:=hha.resolve_right id
   cases h with
   |slice0 _ _ _ a=>exact .inr (.inl ⟨a,rfl,hl.symm⟩)
   |slice _ _ _ _ b off cap f hcap hclip hE hc hr=>
    refine .inr (.inr ⟨b,off,l.length,cap,rfl,hcap,hl,λj i hj hi=>?_⟩)
    have hle:j*E+i<(flat l).length:=by
     rw[Zsb hE]
     calc j*E+i<j*E+E:=zo
      _=(j+1)*E:=by rw[Nat.succ_mul]
      _<=l.length*E:=Nat.mul_le_mul_right E hj
    obtain⟨h1,h2,h3,h4⟩:=hc _ hle;obtain⟨hu1,hu2,hu3⟩:=hu _ (List.getElem_mem hj);have e:=Zpg hE j i hj hi;rw[List.getElem?_eq_getElem hle,List.getElem?_eq_getElem zo]at e;have hr':=hr _ hle;rw[Option.some.inj e]at hr'
    have q:zone B C hd b/\Blk X.w b:=by
     cases hd with
     |false=>exact hso _ _ _ h1 h2 h3
     |true=>exact hh2 _ _ _ h1 h2 h3
    exact⟨q.1,q.2,_,h3,h4,Zgh hso (.inl hh2) hr' (hu3 i zo)⟩
 |.ptr ag hd E c,x,v,hha,h,hs=>by
  obtain⟨u,rfl,hE,_,hu⟩:=hs
  cases h with
  |view _ _ b off f hc hr=>
   refine⟨b,off,rfl,λi hi=>?_⟩;have hi':i<u.cells.length:=zo;obtain⟨h1,h2,h3,h4⟩:=hc i hi'
   have q:zone B C hd b/\Blk X.w b:=by
    cases hd with
    |false=>exact hso _ _ _ h1 h2 h3
    |true=>
     rcases hha with hha|hha
     exact hha _ _ _ h1 h2 h3;exact absurd hha.1 zS
   exact⟨q.1,q.2,_,h3,h4,Zgh hso (hha.imp id λhf=>hf.2 i hi) (hr i hi') (hu i hi')⟩
 |.agg E c,x,v,hha,h,hs=>by
  obtain⟨l,rfl,hE,hu⟩:=hs
  cases h with
  |agg xs _ hx ho hr=>
   exact⟨xs,rfl,zo,λi hi=>⟨ho _ (Array.getElem_mem hi),Zgh hso (hha.imp id λhf=>hf i zo) (hr i hi zo) (hu i zo)⟩⟩
def Xk(w:World)(B C:Nat):Cx:={ β := λ_ _=>none,S:=λb i=>Blk w b/\B<=b/\∃ x,w.cell? ⟨b,i,none⟩=some x,base:=C,w:=w }
theorem Xk.inv{w:World}{B C:Nat}(h:C<=w.heap.size):Inv (Xk w B C) Zk:=by
 refine⟨λo c g fz cs ho=>by simp[Zk]at ho,λo1 c1 g1 f1 l1 o2 c2 g2 f2 l2 b s1 s2 ho=>by simp[Zk]at ho,?_,λo=>⟨0,λ_ _=>rfl⟩,h,λb i hs _=>.inl hs.1,.no (λo lo b ks vs ho=>by simp[Zk]at ho),.no λo b r ho=>by simp[Zk]at ho⟩;rintro b i ⟨_,_,x,hx⟩;exact⟨World.block_lt_of_cell? _ _ hx,λo c g fz cs bs ho=>by simp[Zk]at ho⟩
theorem Z2u{ag:Bool}{l:List V}(h:∀ v∈l,v.cells=[v]):(mkV ag l).cells=l:=by
 unfold mkV
 split
 rfl
 split
 exact h _ zS;rfl
theorem zone_ok{B C:Nat}(hBC:B<=C){hd:Bool}{b:Nat}(h:zone B C hd b):(zc .old .new hd).ok C b/\B<=b:=by
 cases hd with
 |false=>exact⟨h.2,h.1⟩
 |true=>exact⟨h,Nat.le_trans hBC h⟩
theorem Zyea{X:Cx}{w:World}{E:Nat}{g:Nat->Addr}{R:Nat->V->Prop}(h:∀ i,i<E->∃ y v,w.cell? (g i)=some y/\y.oneCell'=true/\Rel (X) y v/\R i v):
  ∃ (l:List V) (f:Nat->Value),l.length=E/\(∀ v∈l,v.cells=[v])/\(∀ i,i<E->w.cell? (g i)=some (f i)/\(f i).oneCell'=true)/\∀ i (hi:i<l.length),Rel (X) (f i) l[i]/\R i l[i]:=by
 have key:∀ i,∃ y v,i<E->w.cell? (g i)=some y/\y.oneCell'=true/\Rel (X) y v/\R i v:=by
  intro i
  by_cases hi:i<E
  obtain⟨y,v,h1⟩:=h i hi;exact⟨y,v,λ_=>h1⟩;exact⟨undef,.top,λhh=>absurd hh hi⟩
 let fy:Nat->Value:=λi=>Classical.choose (key i)
 have key2:∀ i,∃ v,i<E->w.cell? (g i)=some (fy i)/\(fy i).oneCell'=true/\Rel (X) (fy i) v/\R i v:=λi=>Classical.choose_spec (key i)
 let fv:Nat->V:=λi=>Classical.choose (key2 i)
 have hfv:∀ i,i<E->w.cell? (g i)=some (fy i)/\(fy i).oneCell'=true/\Rel (X) (fy i) (fv i)/\R i (fv i):=λi=>Classical.choose_spec (key2 i);refine⟨(List.range E).map fv,fy,zS,?_,λi hi=>⟨(hfv i hi).1,(hfv i hi).2.1⟩,λi hi=>?_⟩;intro v hv;obtain⟨i,hi,rfl⟩:=List.mem_map.1 hv;obtain⟨_,q2,q3,_⟩:=hfv i (List.mem_range.1 hi);exact q3.cells1 q2;have hi':i<E:=zu hi;have:((List.range E).map fv)[i]=fv i:=zS;rw[this];exact(hfv i hi').2.2
structure AllSafe(X:Cx)(w:World)(B C:Nat)(cs ch:Col):Prop where
 hw:X.w=w
 S:∀ hd b i x,zone B C hd b->Blk w b->w.cell? ⟨b,i,none⟩=some x->X.S b i/\(zc cs ch hd).ok X.base b
theorem Zw5{X:Cx}{w:World}{B C:Nat}{cs ch:Col}(hX:AllSafe X w B C cs ch){hd ag:Bool}{E b off len cap:Nat}{R:Nat->V->Prop}(hcap:len<=cap)
  (h:∀ j i,j<len->i<E->zone B C hd b/\Blk w b/\∃ y v,w.cell? ⟨b,off+(j*E+i),none⟩=some y/\y.oneCell'=true/\Rel (X) y v/\R i v):
  ∃ l,l.length=len/\Rel (X) (.slice (some ⟨b,off,none⟩) len cap) (.slice (zc cs ch hd) false E l)/\∀ u∈l,u.cells.length=E/\u=mkV ag u.cells/\∀ i (h:i<u.cells.length),R i u.cells[i]:=by
 have key:∀ j,∃ (m:List V) (f:Nat->Value),j<len->m.length=E/\(∀ v∈m,v.cells=[v])/\(∀ i,i<E->w.cell? ⟨b,off+(j*E+i),none⟩=some (f i)/\(f i).oneCell'=true)/\∀ i (hi:i<m.length),Rel (X) (f i) m[i]/\R i m[i]:=by
  intro j
  by_cases hj:j<len
  obtain⟨l,f,h1⟩:=Zyea (E:=E) (g:=λi=>⟨b,off+(j*E+i),none⟩) (R:=R) λi hi=>(h j i hj hi).2.2;exact⟨l,f,λ_=>h1⟩;exact⟨[],λ_=>undef,λhh=>absurd hh hj⟩
 let el:Nat->List V:=λj=>Classical.choose (key j)
 have key2:∀ j,∃ (f:Nat->Value),j<len->(el j).length=E/\(∀ v∈el j,v.cells=[v])/\(∀ i,i<E->w.cell? ⟨b,off+(j*E+i),none⟩=some (f i)/\(f i).oneCell'=true)/\∀ i (hi:i<(el j).length),Rel (X) (f i) (el j)[i]/\R i (el j)[i]:=λj=>Classical.choose_spec (key j)
 let fy:Nat->Nat->Value:=λj=>Classical.choose (key2 j)
 have hfy:∀ j,j<len->(el j).length=E/\(∀ v∈el j,v.cells=[v])/\(∀ i,i<E->w.cell? ⟨b,off+(j*E+i),none⟩=some (fy j i)/\(fy j i).oneCell'=true)/\∀ i (hi:i<(el j).length),Rel (X) (fy j i) (el j)[i]/\R i (el j)[i]:=λj=>Classical.choose_spec (key2 j)
 let l:List V:=(List.range len).map λj=>mkV ag (el j)
 have hlen:l.length=len:=by simp[l]
 have hcells:∀ j,j<len->(mkV ag (el j)).cells=el j:=λj hj=>Z2u (hfy j hj).2.1
 have hE:∀ v∈l,v.cells.length=E:=by
  intro v hv;obtain⟨j,hj,rfl⟩:=List.mem_map.1 hv;rw[hcells j (List.mem_range.1 hj)];exact(hfy j (List.mem_range.1 hj)).1
 have hflat:(flat l).length=len*E:=by rw[Zsb hE,hlen]
 have hpos:∀ i,i<len*E->0<E/\i/E<len/\i%E<E/\i/E*E+i%E=i:=by
  intro i hi
  have hE0:0<E:=by
   rcases Nat.eq_zero_or_pos E with h0|h0
   rw[h0,Nat.mul_zero]at hi;omega;exact h0
  exact⟨hE0,Nat.div_lt_of_lt_mul (by rw[Nat.mul_comm];exact hi),Nat.mod_lt _ hE0,by rw[Nat.mul_comm];exact Nat.div_add_mod i E⟩
 refine⟨l,hlen,?_,?_⟩
 .have:=Rel.slice (X:=X) (zc cs ch hd) false E l b off cap (λi=>fy (i/E) (i%E)) zo zS hE (λi hi=>by
   obtain⟨q1,q2,q3,q4⟩:=hpos i zo;obtain⟨r1,r2⟩:=(hfy _ q2).2.2.1 _ q3;obtain⟨s1,s2,_⟩:=h _ _ q2 q3;rw[q4]at r1;obtain⟨z1,z2⟩:=hX.S _ _ _ _ s1 s2 r1
   exact⟨z1,z2,by show X.w.cell? _=_;rw[hX.hw];exact r1,r2⟩) (λi hi=>by
   obtain⟨q1,q2,q3,q4⟩:=hpos i zo
   have q5:i%E<(el (i/E)).length:=by rw[(hfy _ q2).1];exact q3
   have e:=Zpg hE (i/E) (i%E) zo q3;rw[q4,List.getElem?_eq_getElem hi]at e
   have e2:l[i/E]'zo=mkV ag (el (i/E)):=by simp[l]
   rw[e2,hcells _ q2,List.getElem?_eq_getElem q5]at e;rw[Option.some.inj e]
   exact((hfy _ q2).2.2.2 _ q5).1)
  rw[hlen]at this;exact this
 intro u hu;obtain⟨j,hj,rfl⟩:=List.mem_map.1 hu;have hj:=List.mem_range.1 hj;rw[hcells j hj];exact⟨(hfy j hj).1,rfl,λi hi=>((hfy j hj).2.2.2 i hi).2⟩
theorem Z2g{X:Cx}{w:World}{B C:Nat}{cs ch:Col}(hX:AllSafe X w B C cs ch):∀ {s:Sh} {x:Value},Kd w B C s x->∃ v,Rel (X) x v/\ShV cs ch s v
 |.lit k n,x,h=>by simp only[Kd]at h;subst h;exact⟨_,.int _ _,rfl⟩
 |.int k,x,h=>by obtain⟨n,rfl⟩:=h;exact⟨_,.int _ _,n,rfl⟩
 |.str,x,h=>by obtain⟨n,rfl⟩:=h;exact⟨_,.str _ _ rfl,_,rfl⟩
 |.row ag E M c,x,h=>by
  rcases h with rfl|⟨a,rfl⟩|⟨b,off,len,cap,rfl,h1,h2,h3⟩
  exact⟨_,.nils,.inl rfl⟩;exact⟨_,.slice0 cs false E a,.inr ⟨_,_,rfl,zS,zS⟩⟩
  obtain⟨l,hl,hr,hu⟩:=Zw5 hX (hd:=false) (ag:=ag) (R:=λi v=>ShV cs ch (c i) v) h1 (λj i hj hi=>by
   obtain⟨q1,q2,y,q3,q4,q5⟩:=h3 j i hj hi;obtain⟨v,q6,q7⟩:=Z2g hX q5
   exact⟨q1,q2,y,v,q3,q4,q6,q7⟩)
  exact⟨_,hr,.inr ⟨_,l,rfl,zo,hu⟩⟩
 |.rowN ag hd E M c,x,h=>by
  rcases h with ⟨rfl,h0⟩|⟨a,rfl,h0⟩|⟨b,off,len,cap,rfl,h1,h2,h3⟩
  exact⟨_,.nils,.inl ⟨rfl,h0⟩⟩;exact⟨_,.slice0 (zc cs ch hd) false E a,.inr ⟨_,_,rfl,by simp[h0],zS⟩⟩
  obtain⟨l,hl,hr,hu⟩:=Zw5 hX (hd:=hd) (ag:=ag) (R:=λi v=>ShV cs ch (c i) v) h1 (λj i hj hi=>by
   obtain⟨q1,q2,y,q3,q4,q5⟩:=h3 j i hj hi;obtain⟨v,q6,q7⟩:=Z2g hX q5
   exact⟨q1,q2,y,v,q3,q4,q6,q7⟩)
  exact⟨_,hr,.inr ⟨_,l,rfl,zo,hu⟩⟩
 |.ptr ag hd E c,x,h=>by
  obtain⟨b,off,rfl,h3⟩:=h
  obtain⟨l,f,h1,h2,h4,h5⟩:=Zyea (X:=X) (w:=w) (E:=E) (g:=λi=>⟨b,off+i,none⟩) (R:=λi v=>ShV cs ch (c i) v) (λi hi=>by
    obtain⟨q1,q2,y,q3,q4,q5⟩:=h3 i hi;obtain⟨v,q6,q7⟩:=Z2g hX q5
    exact⟨y,v,q3,q4,q6,q7⟩)
  have hc:=Z2u (ag:=ag) h2;refine⟨.view (zc cs ch hd) (mkV ag l),.view _ _ b off f (λi hi=>?_) (λi hi=>?_),_,rfl,by rw[hc];exact h1,by rw[hc],λi hi=>?_⟩
  have hi':i<E:=by rw[hc]at hi;omega
  obtain⟨r1,r2⟩:=h4 i hi';obtain⟨s1,s2,_⟩:=h3 i hi';obtain⟨z1,z2⟩:=hX.S _ _ _ _ s1 s2 r1;exact⟨z1,z2,by show X.w.cell? _=_;rw[hX.hw];exact r1,r2⟩;simp only[hc]at hi⊢;exact(h5 i hi).1;simp only[hc]at hi⊢;exact(h5 i hi).2
 |.agg E c,x,h=>by
  obtain⟨l,rfl,hE,hu⟩:=h
  have key:∀ i,∃ v,∀ h:i<l.size,Rel (X) l[i] v/\ShV cs ch (c i) v:=by
   intro i
   by_cases hi:i<l.size
   obtain⟨v,h7,h8⟩:=Z2g hX (hu i hi).2;exact⟨v,λ_=>⟨h7,h8⟩⟩;exact⟨.top,λhh=>absurd hh hi⟩
  let fv:Nat->V:=λi=>Classical.choose (key i)
  have hfv:∀ i (h:i<l.size),Rel (X) l[i] (fv i)/\ShV cs ch (c i) (fv i):=λi=>Classical.choose_spec (key i);refine⟨.agg ((List.range E).map fv),.agg _ _ (by simp[hE]) (λx hx=>?_) (λi h1 h2=>?_),_,rfl,zS,λi h=>?_⟩;obtain⟨i,hi,rfl⟩:=Array.getElem_of_mem hx;exact(hu i hi).1;have:((List.range E).map fv)[i]=fv i:=zS;rw[this];exact(hfv i h1).1;have:((List.range E).map fv)[i]=fv i:=zS;rw[this];exact(hfv i (by simp at h;omega)).2
theorem Xk.all{w:World}{B C:Nat}(hBC:B<=C):AllSafe (Xk w B C) w B C .old .new:=
 ⟨rfl,λ_ b i x hz hb hc=>by
  obtain⟨z1,z2⟩:=zone_ok hBC hz
  exact⟨⟨hb,z2,_,hc⟩,z1⟩⟩
inductive Alike:Value->Value->Prop
 |refl (x:Value):Alike x x
 |int (k:IntKind) (m n:Int):Alike (.int k m) (.int k n)
 |str (s t:ByteArray):Alike (.string s) (.string t)
 |nil (a:Option Addr) (l c:Nat):Alike (.slice a l c) (.slice none 0 0)
theorem Alike.trans{x y z:Value}(h:Alike x y)(k:Alike y z):Alike x z:=by
 cases h with
 |refl=>exact k
 |int kk m n=>cases k with
  |refl=>exact .int _ _ _
  |int=>exact .int _ _ _
 |str s t=>cases k with
  |refl=>exact .str _ _
  |str=>exact .str _ _
 |nil a l c=>cases k with
  |refl=>exact .nil _ _ _
  |nil=>exact .nil _ _ _
theorem Alike.one{x y:Value}(h:Alike x y)(ho:x.oneCell'=true):y.oneCell'=true:=by
 cases h<;>first|exact ho|rfl
structure KP(B C:Nat)(w w':World):Prop where
 os:w'.os=w.os
 tape:w'.tape=w.tape
 output:w'.output=w.output
 size:w.heap.size<=w'.heap.size
 old:∀ k,k<w.heap.size->k<B\/C<=k->w'.heap[k]?=w.heap[k]?
 blk:∀ b,Blk w b->Blk w' b
 cell:∀ b i x,w.cell? ⟨b,i,none⟩=some x->Blk w b->∃ y,w'.cell? ⟨b,i,none⟩=some y/\Alike x y
theorem KP.refl(B C:Nat)(w:World):KP B C w w:=⟨rfl,rfl,rfl,Nat.le_refl _,λ_ _ _=>rfl,λ_ h=>h,λ_ _ x h _=>⟨x,h,.refl x⟩⟩
theorem KP.trans{B C:Nat}{w w' w'':World}(h:KP B C w w')(k:KP B C w' w''):KP B C w w'' where
 os:=k.os.trans h.os
 tape:=k.tape.trans h.tape
 output:=k.output.trans h.output
 size:=Nat.le_trans h.size k.size
 old:=λb hb hc=>(k.old b (Nat.lt_of_lt_of_le hb h.size) hc).trans (h.old b hb hc)
 blk:=λb hb=>k.blk b (h.blk b hb)
 cell:=λb i x hx hb=>by
  obtain⟨y,h1,h2⟩:=h.cell b i x hx hb;obtain⟨z,h3,h4⟩:=k.cell b i y h1 (h.blk b hb);exact⟨z,h3,h2.trans h4⟩
theorem KP.hard{B C:Nat}{w w':World}(h:KP B C w w'){b i:Nat}{x:Value}(hb:C<=b)(hx:w.cell? ⟨b,i,none⟩=some x):w'.cell? ⟨b,i,none⟩=some x:=by
 rw[World.cell?_of_block (w:=w) (a:=⟨b,i,none⟩) (h.old b (World.block_lt_of_cell? _ _ hx) (.inr hb))];exact hx
theorem Z8h{w w':World}{B C:Nat}(h:KP B C w w'):∀ {s:Sh} {x y:Value},s.free->Alike x y->Kd w B C s x->Kd w' B C s y
 |.lit k n,x,y,hf,ha,hk=>hf.elim
 |.int k,x,y,hf,ha,hk=>by
  obtain⟨n,rfl⟩:=hk
  cases ha with
  |refl=>exact⟨n,rfl⟩
  |int _ _ m=>exact⟨m,rfl⟩
 |.str,x,y,hf,ha,hk=>by
  obtain⟨n,rfl⟩:=hk
  cases ha with
  |refl=>exact⟨n,rfl⟩
  |str _ m=>exact⟨m,rfl⟩
 |.row ag E M c,x,y,hf,ha,hk=>by
  rcases hk with rfl|⟨a,rfl⟩|⟨b,off,len,cap,rfl,h1,h2,h3⟩
  .cases ha with
   |refl=>exact .inl rfl
   |nil=>exact .inl rfl
  .cases ha with
   |refl=>exact .inr (.inl ⟨a,rfl⟩)
   |nil=>exact .inl rfl
  .cases ha with
   |nil=>exact .inl rfl
   |refl=>
    refine .inr (.inr ⟨b,off,len,cap,rfl,h1,h2,λj i hj hi=>?_⟩);obtain⟨q1,q2,y,q3,q4,q5⟩:=h3 j i hj hi;obtain⟨z,r1,r2⟩:=h.cell _ _ _ q3 q2;exact⟨q1,h.blk _ q2,z,r1,r2.one q4,Z8h h (hf i hi) r2 q5⟩
 |.rowN ag hd E M c,x,y,hf,ha,hk=>hf.elim
 |.ptr ag hd E c,x,y,hf,ha,hk=>by
  obtain⟨b,off,rfl,h3⟩:=hk
  cases ha with
  |refl=>
   refine⟨b,off,rfl,λi hi=>?_⟩;obtain⟨q1,q2,y,q3,q4,q5⟩:=h3 i hi;obtain⟨z,r1,r2⟩:=h.cell _ _ _ q3 q2;exact⟨q1,h.blk _ q2,z,r1,r2.one q4,Z8h h (hf.2 i hi) r2 q5⟩
 |.agg E c,x,y,hf,ha,hk=>by
  obtain⟨l,rfl,hE,hu⟩:=hk
  cases ha with
  |refl=>exact⟨l,rfl,hE,λi hi=>⟨(hu i hi).1,Z8h h (hf i zo) (.refl _) (hu i hi).2⟩⟩
def Sh.freeT:Sh->Prop
 |.lit _ _=>True
 |.int _=>True
 |.str=>True
 |.row _ E _ c=>∀ i,i<E->(c i).free
 |.rowN _ hd E _ c=>if hd then ∀ i,i<E->(c i).freeT else ∀ i,i<E->(c i).free
 |.ptr _ hd E c=>if hd then ∀ i,i<E->(c i).freeT else ∀ i,i<E->(c i).free
 |.agg E c=>∀ i,i<E->(c i).freeT
theorem Z2s{w w':World}{B C:Nat}(h:KP B C w w'):∀ {s:Sh} {x:Value},s.freeT->Kd w B C s x->Kd w' B C s x
 |.lit k n,x,_,hk=>hk
 |.int k,x,_,hk=>hk
 |.str,x,_,hk=>hk
 |.row ag E M c,x,hf,hk=>Z8h h (s:=.row ag E M c) hf (.refl x) hk
 |.rowN ag hd E M c,x,hf,hk=>by
  rcases hk with ⟨rfl,h0⟩|⟨a,rfl,h0⟩|⟨b,off,len,cap,rfl,h1,h2,h3⟩
  exact .inl ⟨rfl,h0⟩;exact .inr (.inl ⟨a,rfl,h0⟩)
  .refine .inr (.inr ⟨b,off,len,cap,rfl,h1,h2,λj i hj hi=>?_⟩)
   obtain⟨q1,q2,y,q3,q4,q5⟩:=h3 j i hj hi
   cases hd with
   |false=>
    obtain⟨z,r1,r2⟩:=h.cell _ _ _ q3 q2;exact⟨q1,h.blk _ q2,z,r1,r2.one q4,Z8h h (hf i hi) r2 q5⟩
   |true=>exact⟨q1,h.blk _ q2,y,h.hard q1 q3,q4,Z2s h (hf i hi) q5⟩
 |.ptr ag hd E c,x,hf,hk=>by
  obtain⟨b,off,rfl,h3⟩:=hk;refine⟨b,off,rfl,λi hi=>?_⟩;obtain⟨q1,q2,y,q3,q4,q5⟩:=h3 i hi
  cases hd with
  |false=>
   obtain⟨z,r1,r2⟩:=h.cell _ _ _ q3 q2;exact⟨q1,h.blk _ q2,z,r1,r2.one q4,Z8h h (hf i hi) r2 q5⟩
  |true=>exact⟨q1,h.blk _ q2,y,h.hard q1 q3,q4,Z2s h (hf i hi) q5⟩
 |.agg E c,x,hf,hk=>by
  obtain⟨l,rfl,hE,hu⟩:=hk;exact⟨l,rfl,hE,λi hi=>⟨(hu i hi).1,Z2s h (hf i zo) (hu i hi).2⟩⟩
theorem Zsr{w:World}{B C:Nat}{Y:Cx}{H':Heap}(h:Goes (Xk w B C) Zk Y H'):KP B C w Y.w:=by
 have hblk:∀ k,k<w.heap.size->Y.w.heap[k]?=w.heap[k]? := λk hk=>h.kp.block k hk (Z7n k);refine⟨h.kp.os,h.kp.tape,h.kp.output,h.kp.size,λk hk _=>hblk k hk,?_,?_⟩;rintro b ⟨c,t,hb⟩
 have:b<w.heap.size:=by rw[Array.getElem?_eq_some_iff]at hb;exact hb.1
 exact⟨c,t,by rw[hblk b this];exact hb⟩;intro b i x hx _;have:b<w.heap.size:=World.block_lt_of_cell? _ _ hx;exact⟨x,by rw[World.cell?_of_block (w:=w) (a:=⟨b,i,none⟩) (hblk b this)];exact hx,.refl x⟩
theorem Zhv{w:World}{B C:Nat}(hC:C<=w.heap.size){Y:Cx}{H':Heap}(h:Goes (Xk w B C) Zk Y H'):∀ b i x,Y.S b i->Y.cell b i=some x->(b<C->B<=b)/\Blk Y.w b:=by
 intro b i x hs hc
 rcases h.Sn b i hs with h1|h1|h1
 obtain⟨q1,q2,_⟩:=h1;exact⟨λ_=>q2,(Zsr h).blk b q1⟩;have h1:w.heap.size<=b:=h1;exact⟨λhh=>zo,h.inv.thawC hs (by rw[h.le.base];exact Nat.le_trans hC h1) hc⟩;exact(Z7n _ h1).elim
theorem Z5na{w:World}{B C b off:Nat}{c1:Array Value}{t:TypeId}(hb:w.heap[b]?=some (Obj.cells c1 t (0,0)))(hB:B<=b)(hC:b<C){vs:List Value}(hfit:off+vs.length<=c1.size)
  (ha:∀ i (h:i<vs.length),Alike (c1[off+i]'zo) vs[i]):
  KP B C w (w.setRow b (c1.toList.take off++vs++c1.toList.drop (off+vs.length)).toArray):=by
 have hlt:b<w.heap.size:=by rw[Array.getElem?_eq_some_iff]at hb;exact hb.1
 have hs:=setRow_heap w b c1 (c1.toList.take off++vs++c1.toList.drop (off+vs.length)).toArray t (0,0) hb
 have hne:∀ k,k≠b->(w.setRow b (c1.toList.take off++vs++c1.toList.drop (off+vs.length)).toArray).heap[k]?=w.heap[k]? := by
  intro k hk;simp only[World.setRow];rw[Array.getElem?_modify,if_neg (Ne.symm hk)]
 refine⟨rfl,rfl,rfl,by simp[World.setRow],λk _ hk=>hne k zo,?_,?_⟩;rintro k ⟨c,t',hk⟩
 by_cases e:k=b
 subst e;exact⟨_,_,hs⟩;exact⟨c,t',by rw[hne k e];exact hk⟩;intro k i x hx _
 by_cases e:k=b
 subst e;rw[Zqh hb]at hx;rw[Zqh hs];obtain⟨hi,hx⟩:=Array.getElem?_eq_some_iff.1 hx
 by_cases h1:i<off
 refine⟨x,?_,.refl x⟩;rw[List.getElem?_toArray,List.append_assoc,List.getElem?_append_left zO,List.getElem?_take_of_lt h1];simp[hi,hx]
 by_cases h2:i<off+vs.length
 refine⟨vs[i-off]'zo,?_,?_⟩;rw[List.getElem?_toArray,List.append_assoc,List.getElem?_append_right zO,List.getElem?_append_left zO];have:i-(c1.toList.take off).length=i-off:=zO;rw[this];simp;have:=ha (i-off) zo;have e2:off+(i-off)=i:=zo;simp only[e2]at this;rwa [hx]at this;refine⟨x,?_,.refl x⟩;rw[List.getElem?_toArray,List.getElem?_append_right zO,List.getElem?_drop];have:off+vs.length+(i-(c1.toList.take off++vs).length)=i:=zO;rw[this];simp[hi,hx];refine⟨x,?_,.refl x⟩;rw[World.cell?_of_block (w:=w) (a:=⟨k,i,none⟩) (hne k e)];exact hx
end
end Go.Hs
