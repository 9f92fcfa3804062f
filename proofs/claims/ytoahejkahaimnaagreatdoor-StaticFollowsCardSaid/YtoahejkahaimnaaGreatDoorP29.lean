/- A part. No condition. -/
import Derived.Test.YtoahejkahaimnaaGreatDoorP28
set_option linter.all false
namespace Go.Hs
section
variable{P:Program}
inductive Sh where
 |lit (k:IntKind) (n:Int)
 |int (k:IntKind)
 |str
 |row (ag:Bool) (E M:Nat) (c:Nat->Sh)
 |rowN (ag hd:Bool) (E N:Nat) (c:Nat->Sh)
 |ptr (ag hd:Bool) (E:Nat) (c:Nat->Sh)
 |agg (E:Nat) (c:Nat->Sh)
def Blk(w:World)(b:Nat):Prop:=∃ c t,w.heap[b]?=some (Obj.cells c t (0,0))
def Zne(B C:Nat)(hd:Bool)(b:Nat):Prop:=if hd then C<=b else B<=b/\b<C
def Kd(w:World)(B C:Nat):Sh->Value->Prop
 |.lit k n,x=>x=.int k n
 |.int k,x=>∃ n,x=.int k n
 |.str,x=>∃ s,x=.string s
 |.row _ E M c,x=>x=.slice none 0 0\/(∃ a,x=.slice (some a) 0 0)\/∃ b off len cap,x=.slice (some ⟨b,off,none⟩) len cap/\len<=cap/\len<=M /\
   ∀ j i,j<len->i<E->Zne B C false b/\Blk w b/\∃ y,w.cell? ⟨b,off+(j*E+i),none⟩=some y/\y.oneCell'=true/\Kd w B C (c i) y
 |.rowN _ hd E M c,x=>(x=.slice none 0 0/\M=0)\/(∃ a,x=.slice (some a) 0 0/\M=0)\/∃ b off len cap,x=.slice (some ⟨b,off,none⟩) len cap/\len<=cap/\len=M /\
   ∀ j i,j<len->i<E->Zne B C hd b/\Blk w b/\∃ y,w.cell? ⟨b,off+(j*E+i),none⟩=some y/\y.oneCell'=true/\Kd w B C (c i) y
 |.ptr _ hd E c,x=>∃ b off,x=.pointer (some ⟨b,off,none⟩)/\∀ i,i<E->Zne B C hd b/\Blk w b/\∃ y,w.cell? ⟨b,off+i,none⟩=some y/\y.oneCell'=true/\Kd w B C (c i) y
 |.agg E c,x=>∃ l:Array Value,x=.agg l/\l.size=E/\∀ i (h:i<l.size),l[i].oneCell'=true/\Kd w B C (c i) l[i]
def mkV(ag:Bool)(l:List V):V:=if ag then .agg l else match l with|[v]=>v|l=>.agg l
def zc(cs ch:Col)(hd:Bool):Col:=if hd then ch else cs
def ShV(cs ch:Col):Sh->V->Prop
 |.lit k n,v=>v=.int k n
 |.int k,v=>∃ n,v=.int k n
 |.str,v=>∃ s,v=.str s
 |.row ag E M c,v=>v=.nils\/∃ clip l,v=.slice cs clip E l/\l.length<=M/\∀ u∈l,u.cells.length=E/\u=mkV ag u.cells/\∀ i (h:i<u.cells.length),ShV cs ch (c i) u.cells[i]
 |.rowN ag hd E M c,v=>(v=.nils/\M=0)\/∃ clip l,v=.slice (zc cs ch hd) clip E l/\l.length=M/\∀ u∈l,u.cells.length=E/\u=mkV ag u.cells/\∀ i (h:i<u.cells.length),ShV cs ch (c i) u.cells[i]
 |.ptr ag hd E c,v=>∃ u,v=.view (zc cs ch hd) u/\u.cells.length=E/\u=mkV ag u.cells/\∀ i (h:i<u.cells.length),ShV cs ch (c i) u.cells[i]
 |.agg E c,v=>∃ l,v=.agg l/\l.length=E/\∀ i (h:i<l.length),ShV cs ch (c i) l[i]
def Sh.free:Sh->Prop
 |.lit _ _=>False
 |.int _=>True
 |.str=>True
 |.row _ E _ c=>∀ i,i<E->(c i).free
 |.rowN _ _ _ _ _=>False
 |.ptr _ hd E c=>hd=false/\∀ i,i<E->(c i).free
 |.agg E c=>∀ i,i<E->(c i).free
theorem Pf{X:Cx}{B C:Nat}{cs ch:Col}(g:∀ b i x,X.S b i->cs.ok X.base b->X.cell b i=some x->(B<=b/\b<C)/\Blk X.w b):∀ {s:Sh} {x:Value} {v:V} (hha:(∀ b i x,X.S b i->ch.ok X.base b->X.cell b i=some x->C<=b/\Blk X.w b)\/s.free),Rel X x v->ShV cs ch s v->Kd X.w B C s x
 |.lit k n,x,v,_,h,d=>by simp only[ShV]at d;subst d;exact h.int_inv
 |.int k,x,v,_,h,d=>by obtain⟨n,rfl⟩:=d;exact⟨n,h.int_inv⟩
 |.str,x,v,_,h,d=>by obtain⟨n,rfl⟩:=d;obtain⟨s,d,_⟩:=h.str_inv;exact⟨s,d⟩
 |.row ag E M c,x,v,hha,h,d=>by
  rcases d with rfl|⟨J,l,rfl,K,y⟩
  cases h;exact .inl rfl
  .cases h with
   |slice0 _ _ _ a=>exact .inr (.inl ⟨a,rfl⟩)
   |slice _ _ _ _ b off cap f hcap hclip D hc hr=>
    refine .inr (.inr ⟨b,off,l.length,cap,rfl,hcap,K,λj i z r=>?_⟩)
    have m:j*E+i<(flat l).length:=by
     rw[Wp D]
     calc j*E+i<j*E+E:=zo
      _=(j+1)*E:=by rw[Nat.succ_mul]
      _<=l.length*E:=Nat.mul_le_mul_right E z
    obtain⟨G,F,p,I⟩:=hc _ m;obtain⟨N,L,t⟩:=y _ (List.getElem_mem z);have e:=R5 D j i z r;rw[List.getElem?_eq_getElem m,List.getElem?_eq_getElem zo]at e;have o:=hr _ m;rw[Option.some.inj e]at o;obtain⟨P,O⟩:=g _ _ _ G F p;exact⟨P,O,_,p,I,Pf g (hha.imp id λH=>H i r) o (t i zo)⟩
 |.rowN ag hd E M c,x,v,hha,h,d=>by
  rcases d with ⟨rfl,Q⟩|⟨J,l,rfl,K,y⟩
  cases h;exact .inl ⟨rfl,Q⟩
  .have hh2:∀ b i x,X.S b i->ch.ok X.base b->X.cell b i=some x->C<=b/\Blk X.w b:=hha.resolve_right id
   cases h with
   |slice0 _ _ _ a=>exact .inr (.inl ⟨a,rfl,K.symm⟩)
   |slice _ _ _ _ b off cap f hcap hclip D hc hr=>
    refine .inr (.inr ⟨b,off,l.length,cap,rfl,hcap,K,λj i z r=>?_⟩)
    have m:j*E+i<(flat l).length:=by
     rw[Wp D]
     calc j*E+i<j*E+E:=zo
      _=(j+1)*E:=by rw[Nat.succ_mul]
      _<=l.length*E:=Nat.mul_le_mul_right E z
    obtain⟨G,F,p,I⟩:=hc _ m;obtain⟨N,L,t⟩:=y _ (List.getElem_mem z);have e:=R5 D j i z r;rw[List.getElem?_eq_getElem m,List.getElem?_eq_getElem zo]at e;have o:=hr _ m;rw[Option.some.inj e]at o
    have q:Zne B C hd b/\Blk X.w b:=by
     cases hd with
     |false=>exact g _ _ _ G F p
     |true=>exact hh2 _ _ _ G F p
    exact⟨q.1,q.2,_,p,I,Pf g (.inl hh2) o (t i zo)⟩
 |.ptr ag hd E c,x,v,hha,h,d=>by
  obtain⟨u,rfl,D,_,y⟩:=d
  cases h with
  |view _ _ b off f hc hr=>
   refine⟨b,off,rfl,λi r=>?_⟩;have A:i<u.cells.length:=zo;obtain⟨G,F,p,I⟩:=hc i A
   have q:Zne B C hd b/\Blk X.w b:=by
    cases hd with
    |false=>exact g _ _ _ G F p
    |true=>
     rcases hha with hha|hha
     exact hha _ _ _ G F p;exact absurd hha.1 zS
   exact⟨q.1,q.2,_,p,I,Pf g (hha.imp id λH=>H.2 i r) (hr i A) (y i A)⟩
 |.agg E c,x,v,hha,h,d=>by
  obtain⟨l,rfl,D,y⟩:=d
  cases h with
  |agg xs _ hx ho hr=>
   exact⟨xs,rfl,zo,λi r=>⟨ho _ (Array.getElem_mem r),Pf g (hha.imp id λH=>H i zo) (hr i r zo) (y i zo)⟩⟩
def Xk(w:World)(B C:Nat):Cx:={ β := λ_ _=>none,S:=λb i=>Blk w b/\B<=b/\∃ x,w.cell? ⟨b,i,none⟩=some x,base:=C,w:=w }
theorem Xk.inv{w:World}{B C:Nat}(h:C<=w.heap.size):Inv (Xk w B C) Zi:=by
 refine⟨λo c g f j a=>by simp[Zi]at a,λp E y A t n D v z s b m l a=>by simp[Zi]at a,?_,λo=>⟨0,λ_ _=>rfl⟩,h,λb i e _=>.inl e.1,.no (λo q b u k a=>by simp[Zi]at a),.no λo b r a=>by simp[Zi]at a⟩;rintro b i ⟨_,_,x,d⟩;exact⟨World.block_lt_of_cell? _ _ d,λo c g f j F a=>by simp[Zi]at a⟩
theorem Bx{ag:Bool}{l:List V}(h:∀ v∈l,v.cells=[v]):(mkV ag l).cells=l:=by
 unfold mkV
 split
 rfl
 split
 grind
 rfl
theorem Zy3{B C:Nat}(a:B<=C){hd:Bool}{b:Nat}(h:Zne B C hd b):(zc .old .new hd).ok C b/\B<=b:=by
 cases hd with
 |false=>exact⟨h.2,h.1⟩
 |true=>exact⟨h,Nat.le_trans a h⟩
theorem Z4s{X:Cx}{w:World}{E:Nat}{g:Nat->Addr}{R:Nat->V->Prop}(h:∀ i,i<E->∃ y v,w.cell? (g i)=some y/\y.oneCell'=true/\Rel (X) y v/\R i v):
  ∃ (l:List V) (f:Nat->Value),l.length=E/\(∀ v∈l,v.cells=[v])/\(∀ i,i<E->w.cell? (g i)=some (f i)/\(f i).oneCell'=true)/\∀ i (hi:i<l.length),Rel (X) (f i) l[i]/\R i l[i]:=by
 have d:∀ i,∃ y v,i<E->w.cell? (g i)=some y/\y.oneCell'=true/\Rel (X) y v/\R i v:=by
  intro i
  by_cases hi:i<E
  grind
  exact⟨undef,.top,λo=>absurd o hi⟩
 let c:Nat->Value:=λi=>Classical.choose (d i)
 have a:∀ i,∃ v,i<E->w.cell? (g i)=some (c i)/\(c i).oneCell'=true/\Rel (X) (c i) v/\R i v:=λi=>Classical.choose_spec (d i)
 let e:Nat->V:=λi=>Classical.choose (a i)
 have b:∀ i,i<E->w.cell? (g i)=some (c i)/\(c i).oneCell'=true/\Rel (X) (c i) (e i)/\R i (e i):=λi=>Classical.choose_spec (a i);refine⟨(List.range E).map e,c,zS,?_,λi hi=>⟨(b i hi).1,(b i hi).2.1⟩,λi hi=>?_⟩;intro v m;obtain⟨i,hi,rfl⟩:=List.mem_map.1 m;obtain⟨_,k,j,_⟩:=b i (List.mem_range.1 hi);exact j.cells1 k
 have n:i<E:=by simp_all
 simp_all
structure AllSafe(X:Cx)(w:World)(B C:Nat)(cs ch:Col):Prop where
 hw:X.w=w
 S:∀ hd b i x,Zne B C hd b->Blk w b->w.cell? ⟨b,i,none⟩=some x->X.S b i/\(zc cs ch hd).ok X.base b
theorem Zxf{X:Cx}{w:World}{B C:Nat}{cs ch:Col}(K:AllSafe X w B C cs ch){hd ag:Bool}{E b off len cap:Nat}{R:Nat->V->Prop}(J:len<=cap)
  (h:∀ j i,j<len->i<E->Zne B C hd b/\Blk w b/\∃ y v,w.cell? ⟨b,off+(j*E+i),none⟩=some y/\y.oneCell'=true/\Rel (X) y v/\R i v):
  ∃ l,l.length=len/\Rel (X) (.slice (some ⟨b,off,none⟩) len cap) (.slice (zc cs ch hd) false E l)/\∀ u∈l,u.cells.length=E/\u=mkV ag u.cells/\∀ i (h:i<u.cells.length),R i u.cells[i]:=by
 have t:∀ j,∃ (m:List V) (f:Nat->Value),j<len->m.length=E/\(∀ v∈m,v.cells=[v])/\(∀ i,i<E->w.cell? ⟨b,off+(j*E+i),none⟩=some (f i)/\(f i).oneCell'=true)/\∀ i (n:i<m.length),Rel (X) (f i) m[i]/\R i m[i]:=by
  intro j
  by_cases k:j<len
  obtain⟨l,f,Y⟩:=Z4s (E:=E) (g:=λi=>⟨b,off+(j*E+i),none⟩) (R:=R) λi n=>(h j i k n).2.2;exact⟨l,f,λ_=>Y⟩;exact⟨[],λ_=>undef,λW=>absurd W k⟩
 let d:Nat->List V:=λj=>Classical.choose (t j)
 have p:∀ j,∃ (f:Nat->Value),j<len->(d j).length=E/\(∀ v∈d j,v.cells=[v])/\(∀ i,i<E->w.cell? ⟨b,off+(j*E+i),none⟩=some (f i)/\(f i).oneCell'=true)/\∀ i (n:i<(d j).length),Rel (X) (f i) (d j)[i]/\R i (d j)[i]:=λj=>Classical.choose_spec (t j)
 let z:Nat->Nat->Value:=λj=>Classical.choose (p j)
 have c:∀ j,j<len->(d j).length=E/\(∀ v∈d j,v.cells=[v])/\(∀ i,i<E->w.cell? ⟨b,off+(j*E+i),none⟩=some (z j i)/\(z j i).oneCell'=true)/\∀ i (n:i<(d j).length),Rel (X) (z j i) (d j)[i]/\R i (d j)[i]:=λj=>Classical.choose_spec (p j)
 let l:List V:=(List.range len).map λj=>mkV ag (d j)
 have o:l.length=len:=by simp[l]
 have a:∀ j,j<len->(mkV ag (d j)).cells=d j:=λj k=>Bx (c j k).2.1
 have G:∀ v∈l,v.cells.length=E:=by
  intro v T;obtain⟨j,k,rfl⟩:=List.mem_map.1 T;rw[a j (List.mem_range.1 k)];exact(c j (List.mem_range.1 k)).1
 have F:(flat l).length=len*E:=by rw[Wp G,o]
 have q:∀ i,i<len*E->0<E/\i/E<len/\i%E<E/\i/E*E+i%E=i:=by
  intro i n
  have x:0<E:=by
   rcases Nat.eq_zero_or_pos E with H|H
   rw[H,Nat.mul_zero]at n;omega;exact H
  exact⟨x,Nat.div_lt_of_lt_mul (by rw[Nat.mul_comm];exact n),Nat.mod_lt _ x,by rw[Nat.mul_comm];exact Nat.div_add_mod i E⟩
 refine⟨l,o,?_,?_⟩
 .have:=Rel.slice (X:=X) (zc cs ch hd) false E l b off cap (λi=>z (i/E) (i%E)) zo zS G (λi n=>by
   obtain⟨Q,r,s,D⟩:=q i zo;obtain⟨A,P⟩:=(c _ r).2.2.1 _ s;obtain⟨O,N,_⟩:=h _ _ r s;rw[D]at A;obtain⟨M,L⟩:=K.S _ _ _ _ O N A
   exact⟨M,L,by show X.w.cell? _=_;rw[K.hw];exact A,P⟩) (λi n=>by
   obtain⟨Q,r,s,D⟩:=q i zo
   have I:i%E<(d (i/E)).length:=by rw[(c _ r).1];exact s
   have e:=R5 G (i/E) (i%E) zo s;rw[D,List.getElem?_eq_getElem n]at e
   have e2:l[i/E]'zo=mkV ag (d (i/E)):=by simp[l]
   rw[e2,a _ r,List.getElem?_eq_getElem I]at e;rw[Option.some.inj e]
   exact((c _ r).2.2.2 _ I).1)
  rw[o]at this;exact this
 intro u U;obtain⟨j,k,rfl⟩:=List.mem_map.1 U;have k:=List.mem_range.1 k;rw[a j k];exact⟨(c j k).1,rfl,λi n=>((c j k).2.2.2 i n).2⟩
theorem Q6{X:Cx}{w:World}{B C:Nat}{cs ch:Col}(m:AllSafe X w B C cs ch):∀ {s:Sh} {x:Value},Kd w B C s x->∃ v,Rel (X) x v/\ShV cs ch s v
 |.lit k n,x,h=>by simp only[Kd]at h;subst h;exact⟨_,.int _ _,rfl⟩
 |.int k,x,h=>by obtain⟨n,rfl⟩:=h;exact⟨_,.int _ _,n,rfl⟩
 |.str,x,h=>by obtain⟨n,rfl⟩:=h;exact⟨_,.str _ _ rfl,_,rfl⟩
 |.row ag E M c,x,h=>by
  rcases h with rfl|⟨a,rfl⟩|⟨b,e,len,Q,rfl,o,L,r⟩
  exact⟨_,.nils,.inl rfl⟩;exact⟨_,.slice0 cs false E a,.inr ⟨_,_,rfl,zS,zS⟩⟩
  obtain⟨l,hl,N,q⟩:=Zxf m (hd:=false) (ag:=ag) (R:=λi v=>ShV cs ch (c i) v) o (λj i O d=>by
   obtain⟨K,J,y,D,A,z⟩:=r j i O d;obtain⟨v,u,t⟩:=Q6 m z
   exact⟨K,J,y,v,D,A,u,t⟩)
  exact⟨_,N,.inr ⟨_,l,rfl,zo,q⟩⟩
 |.rowN ag hd E M c,x,h=>by
  rcases h with ⟨rfl,P⟩|⟨a,rfl,P⟩|⟨b,e,len,Q,rfl,o,L,r⟩
  exact⟨_,.nils,.inl ⟨rfl,P⟩⟩;exact⟨_,.slice0 (zc cs ch hd) false E a,.inr ⟨_,_,rfl,by simp[P],zS⟩⟩
  obtain⟨l,hl,N,q⟩:=Zxf m (hd:=hd) (ag:=ag) (R:=λi v=>ShV cs ch (c i) v) o (λj i O d=>by
   obtain⟨K,J,y,D,A,z⟩:=r j i O d;obtain⟨v,u,t⟩:=Q6 m z
   exact⟨K,J,y,v,D,A,u,t⟩)
  exact⟨_,N,.inr ⟨_,l,rfl,zo,q⟩⟩
 |.ptr ag hd E c,x,h=>by
  obtain⟨b,e,rfl,r⟩:=h
  obtain⟨l,f,o,L,h4,U⟩:=Z4s (X:=X) (w:=w) (E:=E) (g:=λi=>⟨b,e+i,none⟩) (R:=λi v=>ShV cs ch (c i) v) (λi d=>by
    obtain⟨K,J,y,D,A,z⟩:=r i d;obtain⟨v,u,t⟩:=Q6 m z
    exact⟨y,v,D,A,u,t⟩)
  have I:=Bx (ag:=ag) L;refine⟨.view (zc cs ch hd) (mkV ag l),.view _ _ b e f (λi d=>?_) (λi d=>?_),_,rfl,by rw[I];exact o,by rw[I],λi d=>?_⟩
  have G:i<E:=by rw[I]at d;omega
  obtain⟨T,r2⟩:=h4 i G;obtain⟨s1,s2,_⟩:=r i G;obtain⟨Y,W⟩:=m.S _ _ _ _ s1 s2 T;exact⟨Y,W,by show X.w.cell? _=_;rw[m.hw];exact T,r2⟩;simp only[I]at d⊢;exact(U i d).1;simp only[I]at d⊢;exact(U i d).2
 |.agg E c,x,h=>by
  obtain⟨l,rfl,hE,q⟩:=h
  have F:∀ i,∃ v,∀ h:i<l.size,Rel (X) l[i] v/\ShV cs ch (c i) v:=by
   intro i
   by_cases d:i<l.size
   obtain⟨v,h7,h8⟩:=Q6 m (q i d).2;exact⟨v,λ_=>⟨h7,h8⟩⟩;exact⟨.top,λhh=>absurd hh d⟩
  let p:Nat->V:=λi=>Classical.choose (F i)
  have H:∀ i (h:i<l.size),Rel (X) l[i] (p i)/\ShV cs ch (c i) (p i):=λi=>Classical.choose_spec (F i);refine⟨.agg ((List.range E).map p),.agg _ _ (by simp[hE]) (λx hx=>?_) (λi o L=>?_),_,rfl,zS,λi h=>?_⟩;obtain⟨i,d,rfl⟩:=Array.getElem_of_mem hx;exact(q i d).1;have:((List.range E).map p)[i]=p i:=zS;rw[this];exact(H i o).1;have:((List.range E).map p)[i]=p i:=zS;rw[this];exact(H i (by simp at h;omega)).2
theorem Xk.all{w:World}{B C:Nat}(a:B<=C):AllSafe (Xk w B C) w B C .old .new:=
 ⟨rfl,λ_ b i x e g f=>by
  obtain⟨d,c⟩:=Zy3 a e
  exact⟨⟨g,c,_,f⟩,d⟩⟩
inductive Alike:Value->Value->Prop
 |refl (x:Value):Alike x x
 |int (k:IntKind) (m n:Int):Alike (.int k m) (.int k n)
 |str (s t:ByteArray):Alike (.string s) (.string t)
 |nil (a:Option Addr) (l c:Nat):Alike (.slice a l c) (.slice none 0 0)
theorem Alike.trans{x y z:Value}(h:Alike x y)(k:Alike y z):Alike x z:=by
 cases h with
 |refl=>exact k
 |int kk m n=>cases k with
  |refl=>exact .int _ _ _
  |int=>exact .int _ _ _
 |str s t=>cases k with
  |refl=>exact .str _ _
  |str=>exact .str _ _
 |nil a l c=>cases k with
  |refl=>exact .nil _ _ _
  |nil=>exact .nil _ _ _
theorem Alike.one{x y:Value}(h:Alike x y)(a:x.oneCell'=true):y.oneCell'=true:=by
 cases h<;>first|grind|rfl
structure KP(B C:Nat)(w w':World):Prop where
 os:w'.os=w.os
 tape:w'.tape=w.tape
 output:w'.output=w.output
 size:w.heap.size<=w'.heap.size
 old:∀ k,k<w.heap.size->k<B\/C<=k->w'.heap[k]?=w.heap[k]?
 blk:∀ b,Blk w b->Blk w' b
 cell:∀ b i x,w.cell? ⟨b,i,none⟩=some x->Blk w b->∃ y,w'.cell? ⟨b,i,none⟩=some y/\Alike x y
theorem KP.refl(B C:Nat)(w:World):KP B C w w:=⟨rfl,rfl,rfl,Nat.le_refl _,λ_ _ _=>rfl,λ_ h=>h,λ_ _ x h _=>⟨x,h,.refl x⟩⟩
theorem KP.trans{B C:Nat}{w w' c:World}(h:KP B C w w')(k:KP B C w' c):KP B C w c where
 os:=k.os.trans h.os
 tape:=k.tape.trans h.tape
 output:=k.output.trans h.output
 size:=Nat.le_trans h.size k.size
 old:=λb a d=>(k.old b (Nat.lt_of_lt_of_le a h.size) d).trans (h.old b a d)
 blk:=λb a=>k.blk b (h.blk b a)
 cell:=λb i x e a=>by
  obtain⟨y,l,j⟩:=h.cell b i x e a;obtain⟨z,g,f⟩:=k.cell b i y l (h.blk b a);exact⟨z,g,j.trans f⟩
theorem KP.hard{B C:Nat}{w w':World}(h:KP B C w w'){b i:Nat}{x:Value}(d:C<=b)(c:w.cell? ⟨b,i,none⟩=some x):w'.cell? ⟨b,i,none⟩=some x:=by
 rw[World.cell?_of_block (w:=w) (a:=⟨b,i,none⟩) (h.old b (World.block_lt_of_cell? _ _ c) (.inr d))];exact c
theorem Pg{w w':World}{B C:Nat}(h:KP B C w w'):∀ {s:Sh} {x y:Value},s.free->Alike x y->Kd w B C s x->Kd w' B C s y
 |.lit k n,x,y,hf,ha,hk=>hf.elim
 |.int k,x,y,hf,ha,hk=>by
  obtain⟨n,rfl⟩:=hk
  cases ha with
  |refl=>exact⟨n,rfl⟩
  |int _ _ m=>exact⟨m,rfl⟩
 |.str,x,y,hf,ha,hk=>by
  obtain⟨n,rfl⟩:=hk
  cases ha with
  |refl=>exact⟨n,rfl⟩
  |str _ m=>exact⟨m,rfl⟩
 |.row ag E M c,x,y,hf,ha,hk=>by
  rcases hk with rfl|⟨a,rfl⟩|⟨b,e,len,v,rfl,H,G,u⟩
  .cases ha with
   |refl=>exact .inl rfl
   |nil=>exact .inl rfl
  .cases ha with
   |refl=>exact .inr (.inl ⟨a,rfl⟩)
   |nil=>exact .inl rfl
  .cases ha with
   |nil=>exact .inl rfl
   |refl=>
    refine .inr (.inr ⟨b,e,len,v,rfl,H,G,λj i D d=>?_⟩);obtain⟨t,g,y,r,q,p⟩:=u j i D d;obtain⟨z,o,f⟩:=h.cell _ _ _ r g;exact⟨t,h.blk _ g,z,o,f.one q,Pg h (hf i d) f p⟩
 |.rowN ag hd E M c,x,y,hf,ha,hk=>hf.elim
 |.ptr ag hd E c,x,y,hf,ha,hk=>by
  obtain⟨b,e,rfl,u⟩:=hk
  cases ha with
  |refl=>
   refine⟨b,e,rfl,λi d=>?_⟩;obtain⟨t,g,y,r,q,p⟩:=u i d;obtain⟨z,o,f⟩:=h.cell _ _ _ r g;exact⟨t,h.blk _ g,z,o,f.one q,Pg h (hf.2 i d) f p⟩
 |.agg E c,x,y,hf,ha,hk=>by
  obtain⟨l,rfl,F,A⟩:=hk
  cases ha with
  |refl=>exact⟨l,rfl,F,λi d=>⟨(A i d).1,Pg h (hf i zo) (.refl _) (A i d).2⟩⟩
def Sh.freeT:Sh->Prop
 |.lit _ _=>True
 |.int _=>True
 |.str=>True
 |.row _ E _ c=>∀ i,i<E->(c i).free
 |.rowN _ hd E _ c=>if hd then ∀ i,i<E->(c i).freeT else ∀ i,i<E->(c i).free
 |.ptr _ hd E c=>if hd then ∀ i,i<E->(c i).freeT else ∀ i,i<E->(c i).free
 |.agg E c=>∀ i,i<E->(c i).freeT
theorem G7{w w':World}{B C:Nat}(h:KP B C w w'):∀ {s:Sh} {x:Value},s.freeT->Kd w B C s x->Kd w' B C s x
 |.lit k n,x,_,hk=>hk
 |.int k,x,_,hk=>hk
 |.str,x,_,hk=>hk
 |.row ag E M c,x,hf,hk=>Pg h (s:=.row ag E M c) hf (.refl x) hk
 |.rowN ag hd E M c,x,hf,hk=>by
  rcases hk with ⟨rfl,u⟩|⟨a,rfl,u⟩|⟨b,g,len,v,rfl,H,G,t⟩
  exact .inl ⟨rfl,u⟩;exact .inr (.inl ⟨a,rfl,u⟩)
  .refine .inr (.inr ⟨b,g,len,v,rfl,H,G,λj i D d=>?_⟩)
   obtain⟨f,e,y,q,p,o⟩:=t j i D d
   cases hd with
   |false=>
    obtain⟨z,r,m⟩:=h.cell _ _ _ q e;exact⟨f,h.blk _ e,z,r,m.one p,Pg h (hf i d) m o⟩
   |true=>exact⟨f,h.blk _ e,y,h.hard f q,p,G7 h (hf i d) o⟩
 |.ptr ag hd E c,x,hf,hk=>by
  obtain⟨b,g,rfl,t⟩:=hk;refine⟨b,g,rfl,λi d=>?_⟩;obtain⟨f,e,y,q,p,o⟩:=t i d
  cases hd with
  |false=>
   obtain⟨z,r,m⟩:=h.cell _ _ _ q e;exact⟨f,h.blk _ e,z,r,m.one p,Pg h (hf i d) m o⟩
  |true=>exact⟨f,h.blk _ e,y,h.hard f q,p,G7 h (hf i d) o⟩
 |.agg E c,x,hf,hk=>by
  obtain⟨l,rfl,F,A⟩:=hk;exact⟨l,rfl,F,λi d=>⟨(A i d).1,G7 h (hf i zo) (A i d).2⟩⟩
theorem Cf{w:World}{B C:Nat}{Y:Cx}{H':Heap}(h:Goes (Xk w B C) Zi Y H'):KP B C w Y.w:=by
 have d:∀ k,k<w.heap.size->Y.w.heap[k]?=w.heap[k]? := λk e=>h.kp.block k e (K2 k);refine⟨h.kp.os,h.kp.tape,h.kp.output,h.kp.size,λk e _=>d k e,?_,?_⟩;rintro b ⟨c,t,g⟩
 have:b<w.heap.size:=by grind
 exact⟨c,t,by grind⟩;intro b i x f _;have:b<w.heap.size:=World.block_lt_of_cell? _ _ f;exact⟨x,by rw[World.cell?_of_block (w:=w) (a:=⟨b,i,none⟩) (d b this)];exact f,.refl x⟩
theorem B3{w:World}{B C:Nat}(g:C<=w.heap.size){Y:Cx}{H':Heap}(h:Goes (Xk w B C) Zi Y H'):∀ b i x,Y.S b i->Y.cell b i=some x->(b<C->B<=b)/\Blk Y.w b:=by
 intro b i x c f
 rcases h.Sn b i c with a|a|a
 obtain⟨e,d,_⟩:=a;exact⟨λ_=>d,(Cf h).blk b e⟩;have a:w.heap.size<=b:=a;exact⟨λj=>zo,h.inv.thawC c (by rw[h.le.base];exact Nat.le_trans g a) f⟩;exact(K2 _ a).elim
theorem Zp3{w:World}{B C b off:Nat}{c1:Array Value}{t:TypeId}(j:w.heap[b]?=some (Obj.cells c1 t (0,0)))(u:B<=b)(s:b<C){vs:List Value}(n:off+vs.length<=c1.size)
  (ha:∀ i (h:i<vs.length),Alike (c1[off+i]'zo) vs[i]):
  KP B C w (w.setRow b (c1.toList.take off++vs++c1.toList.drop (off+vs.length)).toArray):=by
 have p:b<w.heap.size:=by rw[Array.getElem?_eq_some_iff]at j;exact j.1
 have l:=setRow_heap w b c1 (c1.toList.take off++vs++c1.toList.drop (off+vs.length)).toArray t (0,0) j
 have f:∀ k,k≠b->(w.setRow b (c1.toList.take off++vs++c1.toList.drop (off+vs.length)).toArray).heap[k]?=w.heap[k]? := by
  intro k g;simp only[World.setRow];rw[Array.getElem?_modify,if_neg (Ne.symm g)]
 refine⟨rfl,rfl,rfl,by simp[World.setRow],λk _ g=>f k zo,?_,?_⟩;rintro k ⟨c,o,g⟩
 by_cases e:k=b
 subst e;exact⟨_,_,l⟩;exact⟨c,o,by rw[f k e];exact g⟩;intro k i x d _
 by_cases e:k=b
 subst e;rw[Qo j]at d;rw[Qo l];obtain⟨m,d⟩:=Array.getElem?_eq_some_iff.1 d
 by_cases q:i<off
 refine⟨x,?_,.refl x⟩;rw[List.getElem?_toArray,List.append_assoc,List.getElem?_append_left zO,List.getElem?_take_of_lt q];simp[m,d]
 by_cases v:i<off+vs.length
 refine⟨vs[i-off]'zo,?_,?_⟩;rw[List.getElem?_toArray,List.append_assoc,List.getElem?_append_right zO,List.getElem?_append_left zO];have:i-(c1.toList.take off).length=i-off:=zO;rw[this];simp;have:=ha (i-off) zo;have r:off+(i-off)=i:=zo;simp only[r]at this;rwa [d]at this;refine⟨x,?_,.refl x⟩;rw[List.getElem?_toArray,List.getElem?_append_right zO,List.getElem?_drop];have:off+vs.length+(i-(c1.toList.take off++vs).length)=i:=zO;rw[this];simp[m,d];refine⟨x,?_,.refl x⟩;rw[World.cell?_of_block (w:=w) (a:=⟨k,i,none⟩) (f k e)];exact d
end
end Go.Hs
