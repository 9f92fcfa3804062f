/- A part. No condition. -/
import Derived.Test.YtoahejkahaimnaaGreatDoorP27
import Derived.Test.YtoahejkahaimnaaGreatDoorP45
set_option linter.all false
namespace Go.Hs
section
variable{P:Program}{E:Ent}{ops:Array Oper}{kp:Kps}
def Zfga(ops:Array Oper)(n:Nat):Bool:=
 (List.range n).all (λk=>(List.range (n+1)).any λj=>Nat.blt k j&&(match ops[j]? with|some o=>o.after.toList.any λe=>Region.binds .any e&&Nat.beq e.on k|none=>false)) &&
 (List.range ops.size).all λj=>match ops[j]? with
  |some o=>(match o.guard with|some (g,_)=>Nat.ble n j||Nat.blt g n|none=>true)&&(o.after.toList.all λe => !Region.binds .any e||Nat.blt e.on j)&&(Nat.ble j n||o.after.toList.any λe=>Region.binds .any e&&Nat.beq e.on (j-1))
  |none=>true
structure LastP(ops:Array Oper)(n:Nat):Prop where
 lt:n<ops.size
 pre:∀ k,k<n->∃ j o,k<j/\j<=n/\ops[j]?=some o/\∃ e∈o.after,Region.binds .any e=true/\e.on=k
 back:∀ j o,ops[j]?=some o->∀ e∈o.after,Region.binds .any e=true->e.on<j
 gd:∀ j o g b,j<n->ops[j]?=some o->o.guard=some (g,b)->g<n
 suf:∀ j o,n<j->ops[j]?=some o->∃ e∈o.after,Region.binds .any e=true/\e.on=j-1
theorem LastP.of{n:Nat}(h:Zfga ops n=true)(hn:Nat.blt n ops.size=true):LastP ops n:=by
 unfold Zfga at h;rw[Bool.and_eq_true]at h;obtain⟨h1,h2⟩:=h;rw[List.all_eq_true]at h1 h2
 have h2':∀ j o,ops[j]?=some o->((match o.guard with|some (g,_)=>Nat.ble n j||Nat.blt g n|none=>true)=true/\(o.after.toList.all λe => !Region.binds .any e||Nat.blt e.on j)=true)/\(Nat.ble j n||o.after.toList.any λe=>Region.binds .any e&&Nat.beq e.on (j-1))=true:=λj o ho=>by
  have hj:j<ops.size:=(Array.getElem?_eq_some_iff.1 ho).1;have:=h2 j (List.mem_range.2 hj);rw[ho]at this;simpa only[Bool.and_eq_true]using this
 refine⟨by rwa [Nat.blt_eq]at hn,λk hk=>?_,λj o ho e he hb=>?_,λj o g b hj ho hg=>?_,λj o hj ho=>?_⟩;have:=h1 k (List.mem_range.2 hk);rw[List.any_eq_true]at this;obtain⟨j,hj,h3⟩:=this;rw[Bool.and_eq_true,Nat.blt_eq]at h3;obtain⟨h3,h4⟩:=h3
 split at h4
 rename_i o ho;rw[List.any_eq_true]at h4;obtain⟨e,he,h5⟩:=h4;rw[Bool.and_eq_true,Nat.beq_eq]at h5;exact⟨j,o,h3,by have:=List.mem_range.1 hj;omega,ho,e,zu he,h5.1,h5.2⟩;cases h4;have:=(h2' j o ho).1.2;rw[List.all_eq_true]at this;have:=this e (zu he);rw[hb,Bool.not_true,Bool.false_or,Nat.blt_eq]at this;exact this;have:=(h2' j o ho).1.1;rw[hg]at this;simp only[Bool.or_eq_true,Nat.ble_eq,Nat.blt_eq]at this;omega;have:=(h2' j o ho).2;rw[Bool.or_eq_true]at this
 rcases this with this|this
 rw[Nat.ble_eq]at this;omega;rw[List.any_eq_true]at this;obtain⟨e,he,h5⟩:=this;rw[Bool.and_eq_true,Nat.beq_eq]at h5;exact⟨e,zu he,h5.1,h5.2⟩
def Upto(ops:Array Oper)(k:Nat)(L:Array Bool):Prop:=(∀ i,i<k->L.getD i false=true)/\∀ i,k<=i->i<ops.size->L.getD i true=false
theorem LastP.all{n:Nat}(h:LastP ops n){L:Array Bool}(hc:Closed ops L)(hi:n∈Region.ready .any ops L):∀ d k,n-k=d->k<n->L.getD k false=true:=by
 obtain⟨_,on,hon,hall⟩:=mem_ready.1 hi;intro d
 induction d using Nat.strongRecOn with
 |_ d ih=>
  intro k hd hk;obtain⟨j,o,h1,h2,ho,e,he,hb,rfl⟩:=h.pre k hk
  by_cases hj:j=n
  subst hj;rw[hon]at ho;cases ho;exact hall e he hb;have:=ih (n-j) zo j rfl zo;exact hc j o ho this e he hb
theorem LastP.ready_upto{n k:Nat}(h:LastP ops n)(hk:n<=k){L:Array Bool}(hu:Upto ops k L){i:Nat}(hi:i∈Region.ready .any ops L):i=k:=by
 obtain⟨h1,o,ho,hall⟩:=mem_ready.1 hi;have hs:i<ops.size:=(Array.getElem?_eq_some_iff.1 ho).1
 by_cases hlt:i<k
 .have:=hu.1 i hlt
  simp only[Array.getD_eq_getD_getElem?]at h1 this
  cases hg:L[i]? with
  |none=>rw[hg]at h1;simp at h1
  |some b=>rw[hg]at h1 this;simp at h1 this;rw[h1]at this;cases this
 by_cases hgt:k<i
 .obtain⟨e,he,hb,heq⟩:=h.suf i o zo ho
  have h3:=hall e he hb;have h4:=hu.2 (i-1) zo zo;rw[heq]at h3;simp only[Array.getD_eq_getD_getElem?]at h3 h4
  cases hg:L[i-1]? with
  |none=>rw[hg]at h4;simp at h4
  |some b=>rw[hg]at h3 h4;simp at h3 h4;rw[h4]at h3;cases h3
 omega
theorem Upto.set{k:Nat}{L:Array Bool}(h:Upto ops k L)(hk:k<L.size):Upto ops (k+1) (L.setIfInBounds k true):=by
 refine⟨λi hi=>?_,λi h1 h2=>?_⟩
 by_cases e:i=k
 subst e;simp[Array.getD_eq_getD_getElem?,hk];rw[getD_set_ne false (Ne.symm e)];exact h.1 i zo;rw[getD_set_ne true zo];exact h.2 i zo h2
theorem Zau{n:Nat}{τ : Nat->V}{o:Oper}(hj:∀ g b,o.guard=some (g,b)->g<n):Zz (ops.toList.take n).toArray τ o=Zz ops τ o:=by
 unfold Zz
 cases hg:o.guard with
 |none=>rfl
 |some p=>
  obtain⟨j,want⟩:=p;simp only;rw[List.getElem?_toArray,List.getElem?_take,if_pos (hj _ _ hg),Array.getElem?_toList]
theorem Ztka{n:Nat}{bor:Md}{v:V}{o:Oper}{K:AS->Prop}{s:AS}(hj:∀ g b,o.guard=some (g,b)->g<n)(h:stD P E kp (ops.toList.take n).toArray bor v o K s):stD P E kp ops bor v o K s:=by
 unfold stD at *;rw[Zau hj]at h;exact h
theorem Zhoa{R:Exit->Act->World->Prop}(hP:∀ ch a w,Pan E ch a w->R (.panic ch) a w)(hd:(ops.all (Z7b E.n))=true){i:Nat}{o:Oper}(ho:ops[i]?=some o){s:AS}{a:Act}{w:World}(hs:Sat E s a w){N:AS->Prop}{K:Act->World->Prop}
  (hst:match Zz ops s.τ o with
   |some true=>Zka P E s o λv H'=>N (AS.put { s with H:=H' } o.dst v)
   |some false=>N (s.put o.dst (.tuple []))
   |none=>False) (hN:∀ s a w,Sat E s a w->N s->K a w):wpOpIn E.rk.F 0 P ops R i K a w:=by
 obtain⟨X,hX⟩:=hs
 have hmem:∀ (o':Oper) d,o'∈ops->o'.dst=some d->d<E.n:=by
  intro o' d hm hdst;rw[Array.all_eq_true']at hd;have:=hd o' hm;unfold Z7b at this;rw[hdst]at this;simpa using this
 have hko:o∈ops:=by rw[Array.getElem?_eq_some_iff]at ho;obtain⟨hlt,rfl⟩:=ho;exact Array.getElem_mem hlt
 unfold wpOpIn;simp only[ho]
 cases hwa:Zz ops s.τ o with
 |none=>rw[hwa]at hst;exact hst.elim
 |some b=>
  have hb:=Ztc hX hwa hmem;rw[hwa]at hst;rw[hb]
  cases b with
  |true=>
   simp only[if_true]at hst⊢;refine Zog _ (Zfm hst) (Oper.wp_mono ?_ (Zjj hX (λd hdst=>hmem o d hko hdst) hst hP));rintro a' w' ⟨v,H',hk',hs'⟩;exact hN _ _ _ hs' hk'
  |false=>
   simp only[Bool.false_eq_true,if_false]at hst⊢;refine⟨λ_ _=>trivial,?_⟩;refine hN _ _ _ ⟨X,?_⟩ hst;have:=hX.step (Goes.refl hX.go.inv) (dst:=o.dst) (c:=undef) (v:=.tuple []) (.tuple #[] [] rfl (λi h1 h2=>by simp at h2)) (λd hdst=>hmem o d hko hdst);rw[hX.hw]at this;exact this
theorem Z6da{n:Nat}(h:LastP ops n){K:AS->Prop}{R:Exit->Act->World->Prop}(hP:∀ ch a w,Pan E ch a w->R (.panic ch) a w)(hR:∀ s a w,Sat E s a w->K s->R .normal a w)(hd:(ops.all (Z7b E.n))=true):
  ∀ (r k fuel:Nat) (L:Array Bool) (s:AS) (a:Act) (w:World),n<k->k+r=ops.size->r<=fuel->L.size=ops.size->Upto ops k L->Sat E s a w->Zsa P E ops K (ops.toList.drop k) s->wpAnyIn E.rk.F 0 P .any ops R fuel L a w
 |0,k,fuel,L,s,a,w,hk,hsz,_,_,hu,hs,ha=>by
  have hr:Region.ready .any ops L=[]:=by
   rw[List.eq_nil_iff_forall_not_mem];intro i hi;have:=h.ready_upto (Nat.le_of_lt hk) hu hi;obtain⟨_,o,ho,_⟩:=mem_ready.1 hi;have:=(Array.getElem?_eq_some_iff.1 ho).1;omega
  have hK:K s:=by
   rw[List.drop_eq_nil_of_le (by rw[Array.length_toList];omega)]at ha;exact ha
  cases fuel with
  |zero=>exact⟨hr,hR _ _ _ hs hK⟩
  |succ f=>exact⟨λ_=>hR _ _ _ hs hK,λi hi=>by rw[hr]at hi;cases hi⟩
 |r+1,k,fuel,L,s,a,w,hk,hsz,hf,hL,hu,hs,ha=>by
  obtain⟨f,rfl⟩:∃ f,fuel=f+1:=⟨fuel-1,zo⟩;have hks:k<ops.size:=zo;have ho:=Array.getElem?_eq_getElem hks;have hkr:k∈Region.ready .any ops L:=mem_ready.2 ⟨hu.2 k (Nat.le_refl _) hks,_,ho,λe he hb=>hu.1 _ (h.back _ _ ho e he hb)⟩;refine⟨λhr=>(by rw[hr]at hkr;cases hkr),λi hi=>?_⟩;obtain rfl:=h.ready_upto (Nat.le_of_lt hk) hu hi
  have hdr:ops.toList.drop i=ops[i]::ops.toList.drop (i+1):=by
   rw[List.drop_eq_getElem_cons (by rw[Array.length_toList];exact hks),Array.getElem_toList]
  rw[hdr]at ha;exact Zhoa hP hd ho hs ha λs' a' w' hs' ha'=>Z6da h hP hR hd r (i+1) f _ s' a' w' zo zo zo (by rw[Array.size_setIfInBounds];exact hL) (hu.set (by rw[hL];exact hks)) hs' ha'
theorem pre_run{n:Nat}(h:LastP ops n)(hG:GOk E.G){T:Told}{Q1:AS->Prop}{R:Exit->Act->World->Prop}(hP:∀ ch a w,Pan E ch a w->R (.panic ch) a w)(hd:(ops.all (Z7b E.n))=true)
  (hQ:∀ fuel L s a w,ops.size-n<=fuel->L.size=ops.size->Upto ops n L->Sat E s a w->Q1 s->wpAnyIn E.rk.F 0 P .any ops R fuel L a w):
  ∀ (fuel m:Nat) (L1 L:Array Bool) (s:AS) (a:Act) (w:World),L.size=ops.size->L1.size=n->Closed ops L->(∀ i,i<n->L[i]?=L1[i]?)->(∀ i,n<=i->i<ops.size->L.getD i true=false)->ops.size-n<=m->Sat E s a w ->
   Zbm P E kp (ops.toList.take n).toArray T Q1 fuel L1 s->wpAnyIn E.rk.F 0 P .any ops R (fuel+m) L a w:=by
 have hop:∀ i,i<n->(ops.toList.take n).toArray[i]?=ops[i]? := λi hi=>by rw[List.getElem?_toArray,List.getElem?_take,if_pos hi,Array.getElem?_toList]
 have hall:∀ (L1 L:Array Bool),L.size=ops.size->(∀ i,i<n->L[i]?=L1[i]?)->Region.ready .any (ops.toList.take n).toArray L1=[]->∀ i,i<n->L.getD i false=true:=by
  intro L1 L hL he hrd i
  induction i using Nat.strongRecOn with
  |_ i ih=>
   intro hi
   have hLi:i<L.size:=by have:=h.lt;omega
   cases hb:L.getD i false with
   |true=>rfl
   |false=>
    exfalso
    have ho:=Array.getElem?_eq_getElem (xs:=ops) (i:=i) zo
    have:i∈Region.ready .any (ops.toList.take n).toArray L1:=mem_ready.2 ⟨by
     rw[Array.getD_eq_getD_getElem?,<- he i hi,Array.getElem?_eq_getElem hLi];rw[Array.getD_eq_getD_getElem?,Array.getElem?_eq_getElem hLi]at hb
     exact hb,_,(hop i hi).trans ho,λe he' hb'=>by
     have hlt:=h.back _ _ ho e he' hb';have:=ih e.on hlt zo;rw[Array.getD_eq_getD_getElem?]at this⊢
     rw[<- he _ zo];exact this⟩
    rw[hrd]at this;cases this
 intro fuel
 induction fuel with
 |zero=>
  intro m L1 L s a w hL hL1 hc he hr hm hs ha;rw[Nat.zero_add];exact hQ m L s a w hm hL ⟨hall L1 L hL he ha.1,hr⟩ hs ha.2
 |succ f ihf=>
  intro m L1 L s a w hL hL1 hc he hr hm hs ha
  by_cases hrd:Region.ready .any (ops.toList.take n).toArray L1=[]
  exact hQ _ L s a w zo hL ⟨hall L1 L hL he hrd,hr⟩ hs (ha.1 hrd)
  .have to1:∀ i,i<n->(i∈Region.ready .any ops L↔i∈Region.ready .any (ops.toList.take n).toArray L1):=λi hi=>by
    rw[mem_ready,mem_ready,hop i hi,Array.getD_eq_getD_getElem?,Array.getD_eq_getD_getElem?,he i hi];refine and_congr Iff.rfl (exists_congr λo=>⟨λq=>⟨q.1,λe h1 h2=>?_⟩,λq=>⟨q.1,λe h1 h2=>?_⟩⟩);have h3:=q.2 e h1 h2;have hlt:=h.back _ _ q.1 e h1 h2;rw[Array.getD_eq_getD_getElem?]at h3⊢;rw[<- he _ zo];exact h3;have h3:=q.2 e h1 h2;have hlt:=h.back _ _ q.1 e h1 h2;rw[Array.getD_eq_getD_getElem?]at h3⊢;rw[he _ zo];exact h3
   obtain⟨i0,hi0⟩:=List.exists_mem_of_ne_nil _ hrd
   have hi0n:i0<n:=by
    obtain⟨_,o,ho,_⟩:=mem_ready.1 hi0;have:=(Array.getElem?_eq_some_iff.1 ho).1;simp at this;omega
   have hi0L:=(to1 i0 hi0n).2 hi0;rw[show f+1+m=(f+m)+1 by omega];refine⟨λh0=>(by rw[h0]at hi0L;cases hi0L),λi hi=>?_⟩
   have unl:∀ (j:Nat) (L:Array Bool),L.getD j true=false->L.getD j false=true->False:=λj L h1 h2=>by
    simp only[Array.getD_eq_getD_getElem?]at h1 h2
    cases hg:L[j]? with
    |none=>rw[hg]at h1;simp at h1
    |some b=>rw[hg]at h1 h2;simp at h1 h2;rw[h1]at h2;cases h2
   have hin:i<n:=by
    rcases Nat.lt_trichotomy i n with q|q|q
    exact q;subst q;exact(unl i0 L (mem_ready.1 hi0L).1 (h.all hc hi _ i0 rfl hi0n)).elim
    exfalso
    obtain⟨_,o,ho,hall'⟩:=mem_ready.1 hi;have hs':=(Array.getElem?_eq_some_iff.1 ho).1;obtain⟨e,h1,h2,h3⟩:=h.suf i o q ho;have h4:=hall' e h1 h2;rw[h3]at h4;exact unl (i-1) L (hr (i-1) zo zo) h4
   obtain⟨_,o,ho,_⟩:=mem_ready.1 hi;have hst:=Ztka (λg b hg=>h.gd i o g b hin ho hg) (ha.2 i ((to1 i hin).1 hi) o ((hop i hin).trans ho))
   have hst2:match Zz ops s.τ o with
    |some true=>Zka P E s o λv H'=>Zbm P E kp (ops.toList.take n).toArray T Q1 f (L1.setIfInBounds i true) (AS.put { s with H:=H' } o.dst v)
    |some false=>Zbm P E kp (ops.toList.take n).toArray T Q1 f (L1.setIfInBounds i true) (s.put o.dst (.tuple []))
    |none=>False:=by
    unfold stD at hst
    cases hw:Zz ops s.τ o with
    |none=>rw[hw]at hst;exact hst.elim
    |some b=>
     rw[hw]at hst
     cases b with
     |false=>exact hst
     |true=>exact Zxk hG hst
   refine Zhoa hP hd ho hs hst2 λs' a' w' hs' ha'=>ihf m _ _ s' a' w' (by rw[Array.size_setIfInBounds];exact hL) (by rw[Array.size_setIfInBounds];exact hL1) (hc.set hi) (λj hj=>?_) (λj h1 h2=>?_) hm hs' ha';rw[Array.getElem?_setIfInBounds,Array.getElem?_setIfInBounds,he j hj]
   have h1:i<L.size:=by have:=h.lt;omega
   have h2:i<L1.size:=zo
   split<;>simp[h1,h2]
   rw[getD_set_ne true zo];exact hr j h1 h2
theorem Zvp{id:Nat}{Q:Exit->AS->Prop}{s:AS}(n:Nat)(T:Told)(hm:P.follows .mixedOrders=true)(hG:GOk E.G)(hd:(ops.all (Z7b E.n))=true)(hl:Zfga ops n=true)(hn:Nat.blt n ops.size=true)
  (hany:∀ hlen:(ops.toList.take n).length=n,Zbm P E kp (ops.toList.take n).toArray T (λs1=>∃ o,ops[n]?=some o/\HandX P E ops (Post E Q) o s1 λs2=>Zsa P E ops (Q .normal) (ops.toList.drop (n+1)) s2) n (Array.replicate n false) s):AW P E (.region id ops true) Q s:=by
 have hL:=LastP.of hl hn;intro a w hs;refine wpIn_region_any hm ?_
 have hs':Sat E s a { w with drawn:=w.drawn+1 }:=by
  obtain⟨X,hX⟩:=hs;have hg:=Goes.drew hX.go.inv (w.drawn+1);refine⟨{ X with w:={ X.w with drawn:=w.drawn+1 } },by simp only;rw[hX.hw],hX.on_ hg,hX.df.go hX.go.inv hg,hX.sz,λt=>(hX.tm t).mono hg.le,λg=>(hX.gl g).go hX.go.inv hg⟩
 have hlen:(ops.toList.take n).length=n:=by rw[List.length_take,Array.length_toList];have:=hL.lt;omega
 have closed:∀ (o2:Array Oper) (k:Nat),Closed o2 (Array.replicate k false):=by
  intro o2 k2 k o _ hk
  exfalso
  simp only[Array.getD_eq_getD_getElem?,Array.getElem?_replicate]at hk
  split at hk<;>simp at hk
 have hany:=hany hlen
 have hrun:=pre_run (P:=P) (R:=Post E Q) hL hG (T:=T) (kp:=kp) (λch a w h=>.inr ⟨ch,rfl,h⟩) hd (λfuel L s1 a1 w1 hf hLs hu hs1 hq=>?_) n (ops.size-n) (Array.replicate n false) (Array.replicate ops.size false) s a _ zS zS (closed _ _)
  (λi hi=>by have:=hL.lt;rw[Array.getElem?_replicate,Array.getElem?_replicate,if_pos zo,if_pos hi]) (λi h1 h2=>by simp[h2]) (Nat.le_refl _) hs' hany
 have:=hL.lt;rw[show n+(ops.size-n)=ops.size by omega]at hrun;exact hrun
 .have hlt:=hL.lt
  obtain⟨f,rfl⟩:∃ f,fuel=f+1:=⟨fuel-1,zo⟩;obtain⟨o,ho,hx⟩:=hq;have hkr:n∈Region.ready .any ops L:=mem_ready.2 ⟨hu.2 n (Nat.le_refl _) hlt,_,ho,λe he hb=>hu.1 _ (hL.back _ _ ho e he hb)⟩;refine⟨λhr=>(by rw[hr]at hkr;cases hkr),λi hi=>?_⟩;obtain rfl:=hL.ready_upto (Nat.le_refl _) hu hi
  have next:∀ s2 a2 w2,Sat E s2 a2 w2->Zsa P E ops (Q .normal) (ops.toList.drop (i+1)) s2->wpAnyIn E.rk.F 0 P .any ops (Post E Q) f (L.setIfInBounds i true) a2 w2:=λs2 a2 w2 h2 hk=>
   Z6da hL (λch a w h=>.inr ⟨ch,rfl,h⟩) (λs a w h1 h2=>.inl ⟨s,h1,h2⟩) hd (ops.size-(i+1)) (i+1) f _ s2 a2 w2 (Nat.lt_succ_self _) zo zo (by rw[Array.size_setIfInBounds];exact hLs) (hu.set zo) h2 hk
  obtain⟨X,hX⟩:=hs1;have hw:=hX.hw;subst hw
  have hmem:∀ (o':Oper) d,o'∈ops->o'.dst=some d->d<E.n:=by
   intro o' d hm hdst;rw[Array.all_eq_true']at hd;have:=hd o' hm;unfold Z7b at this;rw[hdst]at this;simpa using this
  have hko:o∈ops:=by rw[Array.getElem?_eq_some_iff]at ho;obtain⟨hlt,rfl⟩:=ho;exact Array.getElem_mem hlt
  unfold wpOpIn;simp only[ho]
  rcases hx with ⟨hwa,hx⟩|⟨hwa,hx⟩
  .rw[Ztc hX hwa hmem]
   simp only[if_true];refine Oper.wpIn_mono ?_ (hx X a1 hX);rintro a' w' ⟨s2,h2,hk⟩;exact next _ _ _ h2 hk
  rw[Ztc hX hwa hmem];simp only[Bool.false_eq_true,if_false];refine⟨λ_ _=>trivial,next _ _ _ ⟨X,?_⟩ hx⟩;exact hX.step (Goes.refl hX.go.inv) (dst:=o.dst) (c:=undef) (v:=.tuple []) (.tuple #[] [] rfl (λi h1 h2=>by simp at h2)) (λd hdst=>hmem o d hko hdst)
theorem Zup{id:Nat}{Q:Exit->AS->Prop}{s:AS}(n:Nat)(T:Told)(hm:P.follows .mixedOrders=true)(hG:GOk E.G)(hd:(ops.all (Z7b E.n))=true)(hl:Zfga ops n=true)(hn:Nat.blt n ops.size=true)
  (hok:Zcn (ops.toList.take n).toArray T.bor 0 (ops.toList.take n)=true)
  (h:Zbc P E [] (ops.toList.take n).toArray (λs1=>∃ o,ops[n]?=some o/\HandX P E ops (Post E Q) o s1 λs2=>Zsa P E ops (Q .normal) (ops.toList.drop (n+1)) s2) T 0 (ops.toList.take n) s):AW P E (.region id ops true) Q s:=by
 refine Zvp (kp:=[]) n T hm hG hd hl hn λhlen=>?_
 have hsz:(ops.toList.take n).toArray.size=n:=by rw[List.size_toArray,hlen]
 have hc:Closed (ops.toList.take n).toArray (Array.replicate n false):=by
  intro k o _ hk
  exfalso
  simp only[Array.getD_eq_getD_getElem?,Array.getElem?_replicate]at hk
  split at hk<;>simp at hk
 have hD:=Z2n (P:=P) (E:=E) (kp:=[]) (ops:=(ops.toList.take n).toArray) (ops.toList.take n) 0 s (λj=>by rw[List.getElem?_toArray,Nat.zero_add]) h;have hany:=Zsh (P:=P) (E:=E) (kp:=[]) (T:=T) (ops:=(ops.toList.take n).toArray) (Q:=_) (ops.toList.take n) 0 (Array.replicate n false) s (λk=>zS) ⟨by rw[hsz];simp,λj hj=>by rw[hsz]at hj;simp[hj]⟩ hc hok hD;rw[hlen]at hany;exact hany
theorem Z74{id:Nat}{Q:Exit->AS->Prop}{s:AS}(n:Nat)(ord:List Nat)(kp:Kps)(T:Told)(hm:P.follows .mixedOrders=true)(hG:GOk E.G)(hd:(ops.all (Z7b E.n))=true)(hl:Zfga ops n=true)(hn:Nat.blt n ops.size=true)
  (hok:Zbfa (ops.toList.take n).toArray T.bor [] ord=true) (hall:(List.range n).all (λj=>ord.any (Nat.beq j))=true) (hlo:Nat.beq ord.length n=true)
  (h:opsO P E kp (ops.toList.take n).toArray (λs1=>∃ o,ops[n]?=some o/\HandX P E ops (Post E Q) o s1 λs2=>Zsa P E ops (Q .normal) (ops.toList.drop (n+1)) s2) T ord s):AW P E (.region id ops true) Q s:=by
 refine Zvp (kp:=kp) n T hm hG hd hl hn λhlen=>?_
 have hsz:(ops.toList.take n).toArray.size=n:=by rw[List.size_toArray,hlen]
 have hc:Closed (ops.toList.take n).toArray (Array.replicate n false):=by
  intro k o _ hk
  exfalso
  simp only[Array.getD_eq_getD_getElem?,Array.getElem?_replicate]at hk
  split at hk<;>simp at hk
 have hany:=Zaj (P:=P) (E:=E) (kp:=kp) (T:=T) (ops:=(ops.toList.take n).toArray) (Q:=_) ord [] (Array.replicate n false) s (λk hk=>by cases hk) (λj hj=>.inr (by
  rw[List.all_eq_true]at hall
  exact Zrh.1 (hall j (List.mem_range.2 (by rw[hsz]at hj;exact hj))))) ⟨by rw[hsz];simp,λj hj=>by rw[hsz]at hj;simp[hj]⟩ hc hok (Z3n ord s h)
 rw[Nat.eq_of_beq_eq_true hlo]at hany;exact hany
end
end Go.Hs
