/- A part. No condition. -/
import Derived.Test.YtoahejkahaimnaaGreatDoorP7
import Derived.ChangeMaps4
set_option linter.all false
namespace Go.Hs
section
variable{P:Program}{X:Cx}{H:Heap}
def Z3c:TypeDesc->V->List V->Option (Option Nat)
 |.int _,.int _ _,[]=>some none
 |.string,.str _,[]=>some none
 |.int q,.int k a,.int k' b::ks=>if k=k' then(if a=b then some (some 0)else(Z3c (.int q) (.int k a) ks).map (·.map (· + 1)))else none
 |.string,.str a,.str b::ks=>if a=b then some (some 0)else(Z3c .string (.str a) ks).map (·.map (· + 1))
 |_,_,_=>none
theorem Zer{d:TypeDesc}{c:Value}{x:V}(hx:Rel X c x):∀ (l:List MapEntry) (ks:List V) (i:Nat) (r:Option Nat),Z3c d x ks=some r->l.length=ks.length ->
  (∀ i (h1:i<l.length) (h2:i<ks.length),Rel X l[i].key ks[i]) ->
  match r with
  |none=>Instr.findNow d c l i=some none
  |some j=>∃ y,Instr.findNow d c l i=some (some (i+j,y))/\(l[j]?).map (·.key)=some c
 |[],ks,i,r,h,h1,hk=>by
  cases ks with
  |cons=>simp at h1
  |nil=>cases d<;>cases x<;>simp only[Z3c,reduceCtorEq,Option.some.injEq]at h<;>subst h<;>rfl
 |e::l,ks,i,r,h,h1,hk=>by
  cases ks with
  |nil=>simp at h1
  |cons k ks=>
   have hk0:Rel X e.key k:=hk 0 zS zS;have ih:=λr (h:Z3c d x ks=some r)=>Zer hx l ks (i+1) r h (zu h1) (λj q1 q2=>by have:=hk (j+1) (zu q1) (zu q2);simpa using this)
   have next:∀ r,(Z3c d x ks).map (·.map (· + 1))=some r->Instr.findNow d c (e::l) i=Instr.findNow d c l (i+1)->match r with
     |none=>Instr.findNow d c (e::l) i=some none
     |some j=>∃ y,Instr.findNow d c (e::l) i=some (some (i+j,y))/\((e::l)[j]?).map (·.key)=some c:=by
    intro r hr hs
    cases hf:Z3c d x ks with
    |none=>rw[hf]at hr;cases hr
    |some q=>
     rw[hf]at hr;cases hr;have:=ih q hf;rw[hs]
     cases q with
     |none=>exact this
     |some j=>
      obtain⟨y,h1,h2⟩:=this;refine⟨y,?_,zu h2⟩;simp only at h1⊢;rw[h1,show i+1+j=i+(j+1) by omega]
   cases d<;>cases x<;>(try simp only[Z3c,reduceCtorEq]at h)
   rename_i q kk a
   cases k<;>simp only[Z3c,reduceCtorEq]at h
   rename_i k' b;have hc:=hx.int_inv;have he:=hk0.int_inv
   split at h
   rename_i hkk;subst hkk
   split at h
   rename_i hab;subst hab;cases h;exact⟨e.val,by simp[Instr.findNow,Instr.sameNow,hc,he],by simp[he,hc]⟩
   .rename_i hab
    exact next r h (by have hb:(a==b)=false:=beq_false_of_ne hab;simp only[Instr.findNow,Instr.sameNow,hc,he,if_true,hb])
   cases h
   .rename_i a
    cases k<;>simp only[Z3c,reduceCtorEq]at h
    rename_i b
    obtain⟨s,hcs,hs⟩:∃ s,c=.string s/\s.data.toList=a:=by cases hx with|str s _ hs=>exact⟨s,rfl,hs⟩
    generalize hek:e.key=ek at hk0
    cases hk0 with
    |str s' _ hs'=>
    split at h
    rename_i hab;cases h;have:s=s':=ByteArray.ext (Array.ext' (by rw[hs,hs',hab]));subst this;have hb:(s==s)=true:=(MapKept.bytes_beq _ _).2 rfl;exact⟨e.val,by simp only[Instr.findNow,Instr.sameNow,hek,hcs,hb];rfl,by simp[hek,hcs]⟩
    .rename_i hab
     have hne:¬ s=s':=λhh=>hab (by rw[<- hs,<- hs',hh])
     have hb:(s==s')=false:=by rw[Bool.eq_false_iff];exact λhh=>hne ((MapKept.bytes_beq _ _).1 hh)
     exact next r h (by simp only[Instr.findNow,Instr.sameNow,hek,hcs,hb])
def putV(kd:TypeDesc)(x v:V)(ks vs:List V):Option (List V×List V):=match Z3c kd x ks with
 |some none=>some (ks++[x],vs++[v])
 |some (some j)=>some (ks,vs.set j v)
 |none=>none
def EsIs(X:Cx)(es:Array MapEntry)(ks vs:List V):Prop:=es.size=ks.length/\es.size=vs.length/\(∀ i (h1:i<es.size) (h2:i<ks.length),Rel X es[i].key ks[i])/\(∀ i (h1:i<es.size) (h2:i<vs.length),Rel X es[i].val vs[i])
theorem EsIs.push{es:Array MapEntry}{ks vs:List V}(h:EsIs X es ks vs){c d:Value}{x v:V}(hx:Rel X c x)(hv:Rel X d v)(n:Nat):EsIs X (es.push ⟨c,d,n⟩) (ks++[x]) (vs++[v]):=by
 obtain⟨h1,h2,h3,h4⟩:=h;refine⟨by simp[h1],by simp[h2],λi q1 q2=>?_,λi q1 q2=>?_⟩;simp at q1 q2
 by_cases hi:i<es.size
 rw[Array.getElem_push_lt hi,List.getElem_append_left zo];exact h3 i hi zo;obtain rfl:i=es.size:=zo;simp only[Array.getElem_push_eq];rw[List.getElem_append_right zo];simpa using hx;simp at q1 q2
 by_cases hi:i<es.size
 rw[Array.getElem_push_lt hi,List.getElem_append_left zo];exact h4 i hi zo;obtain rfl:i=es.size:=zo;simp only[Array.getElem_push_eq];rw[List.getElem_append_right zo];simpa using hv
theorem EsIs.set{es:Array MapEntry}{ks vs:List V}(h:EsIs X es ks vs){c d:Value}{v:V}{j:Nat}(hj:(es.toList[j]?).map (·.key)=some c)(hv:Rel X d v):EsIs X (es.modify j λe=>{ e with key:=c,val:=d }) ks (vs.set j v):=by
 obtain⟨h1,h2,h3,h4⟩:=h
 have hjl:j<es.size:=by
  apply Classical.byContradiction;intro hn;rw[List.getElem?_eq_none (zu hn)]at hj;cases hj
 have hke:es[j].key=c:=by
  rw[List.getElem?_eq_getElem (zu hjl)]at hj;simpa using hj
 refine⟨by simp[h1],by simp[h2],λi q1 q2=>?_,λi q1 q2=>?_⟩;simp at q1;rw[Array.getElem_modify]
 split
 rename_i e;subst e;simp only;rw[<- hke];exact h3 _ _ _;exact h3 i q1 q2;simp at q1;rw[Array.getElem_modify];simp only[List.getElem_set]
 split
 exact hv;exact h4 i q1 zo
theorem Zh9{t kt et:TypeId}{kd:TypeDesc}{b n:Nat}{es:Array MapEntry}{ks vs ks' vs':List V}{c d:Value}{x v:V}(hu:P.underlying t=some (.map kt et))(hk:P.underlying kt=some kd)(hb:X.w.heap[b]?=some (Obj.map es n))
  (hes:EsIs X es ks vs) (hx:Rel X c x) (hv:Rel X d v) (hp:putV kd x v ks vs=some (ks',vs')):
  ∃ es' n',(Instr.mapUpdate t (.map (some b)) c d).run P X.w=.ok () (ChangeMaps.setBlock X.w b (.map es' n'))/\EsIs X es' ks' vs':=by
 unfold putV at hp
 cases hf:Z3c kd x ks with
 |none=>rw[hf]at hp;cases hp
 |some r=>
  rw[hf]at hp;have hfr:=Zer hx es.toList ks 0 r hf (zu hes.1) (λi h1 h2=>by simpa using hes.2.2.1 i (zu h1) h2)
  have hkd:(∃ q,kd=.int q)\/kd=.string:=by
   cases kd<;>cases x<;>simp[Z3c]at hf⊢
  have hcheck:(Instr.checkKey false 10000 kt c).run P X.w=.ok () X.w:=by
   rcases hkd with ⟨q,rfl⟩|rfl
   unfold Instr.checkKey;simp only[Sem.run_bind,Zd hk,Result.andThen_ok];rfl;unfold Instr.checkKey;simp only[Sem.run_bind,Zd hk,Result.andThen_ok];rfl
  cases r with
  |none=>
   simp only[Option.some.injEq,Prod.mk.injEq]at hp;obtain⟨rfl,rfl⟩:=hp;simp only at hfr
   have hfind:(Instr.findKey kt c es.toList).run P X.w=.ok none X.w:=by simp only[Instr.findKey,Sem.run_bind,Zd hk,Result.andThen_ok,hfr,Sem.run_pure]
   refine⟨es.push ⟨c,d,n⟩,n+1,?_,hes.push hx hv n⟩;simp only[Instr.mapUpdate,Sem.run_bind,Zd hu,Result.andThen_ok,MapKept.run_getObj_map hb,hcheck,hfind,MapKept.run_setObj_map _ hb];rfl
  |some j=>
   simp only[Option.some.injEq,Prod.mk.injEq]at hp;obtain⟨rfl,rfl⟩:=hp;obtain⟨y,h1,h2⟩:=hfr;rw[Nat.zero_add]at h1
   have hfind:(Instr.findKey kt c es.toList).run P X.w=.ok (some (j,y)) X.w:=by simp only[Instr.findKey,Sem.run_bind,Zd hk,Result.andThen_ok,h1,Sem.run_pure]
   have hje:((es[j]?).map (·.key)).getD c=c:=by
    rw[<- Array.getElem?_toList,h2];rfl
   have hsame:Instr.sameBits 10000 c c=true:=by
    rcases hkd with ⟨q,rfl⟩|rfl
    .cases x<;>try(simp[Z3c]at hf;done)
     have:=hx.int_inv;subst this;simp[Instr.sameBits]
    .cases x<;>try(simp[Z3c]at hf;done)
     cases hx with
     |str s _ hs=>simp only[Instr.sameBits];exact(MapKept.bytes_beq _ _).2 rfl
   have hstay:(Instr.keyThatStays c c).run P X.w=.ok c X.w:=by
    unfold Instr.keyThatStays;rw[if_pos hsame];simp only[Sem.run_pure]
   refine⟨es.modify j λe=>{ e with key:=c,val:=d },n,?_,hes.set h2 hv⟩;simp only[Instr.mapUpdate,Sem.run_bind,Zd hu,Result.andThen_ok,MapKept.run_getObj_map hb,hcheck,hfind,hje,hstay,MapKept.run_setObj_map _ hb];rfl
theorem Z34(h:Inv X H)(o lo:Nat)(hlo:lo<=X.w.heap.size):Goes X H { X with w:=X.w.alloc (.map #[] 0) } (upd H o (.mp lo X.w.heap.size [] [])):=by
 have hb:=MapKept.heap_alloc X.w (.map #[] 0);have hbelow:RowKit.Below X.w.heap.size X.w (X.w.alloc (.map #[] 0)):=(RowKit.Below.refl _ X.w).alloc (Nat.le_refl _) _
 have hcell:∀ b i x,X.cell b i=some x->(X.w.alloc (.map #[] 0)).cell? ⟨b,i,none⟩=some x:=λb i x hc=>
  (hbelow.cell (show(⟨b,i,none⟩:Addr).block<X.w.heap.size from World.block_lt_of_cell? _ _ hc)).trans hc
 have hle:X.le { X with w:=X.w.alloc (.map #[] 0) }:=⟨λ_ _ _ h=>h,λ_ _ h=>h,λb i x _ hc=>hcell b i x hc,rfl,λb c t hc=>⟨c,by
   show(X.w.alloc _).heap[b]?=_
   rw[hbelow.block b (by rw[Array.getElem?_eq_some_iff]at hc;exact hc.1),hc],rfl⟩,λb es n _ hc=>by
   show(X.w.alloc _).heap[b]?=_
   rw[hbelow.block b (by rw[Array.getElem?_eq_some_iff]at hc;exact hc.1),hc]⟩
 have hkp:Keep (LiveB X H) X.w (X.w.alloc (.map #[] 0)):=⟨hbelow.os,hbelow.tape,hbelow.output,hbelow.size,λk hk _=>hbelow.block k hk⟩
 have key:∀ o' c g f cs,upd H o (.mp lo X.w.heap.size [] []) o'=.cells c g f cs->H o'=.cells c g f cs:=by
  intro o' c g f cs hh
  by_cases e:o'=o
  subst e;simp at hh;rwa [Zi _ _ e]at hh
 have Zhc:∀ o' b r,upd H o (.mp lo X.w.heap.size [] []) o'=.lp b r->H o'=.lp b r:=by
  intro o' b r hh
  by_cases e:o'=o
  subst e;simp at hh;rwa [Zi _ _ e]at hh
 have hold:MpOk { X with w:=X.w.alloc (.map #[] 0) } H:=h.mps_tr hle (λ_ _ _ _ _ h=>h) hkp λ_ _ hs=>.inl hs;refine⟨⟨?_,?_,?_,h.fin,Nat.le_trans h.bw hbelow.size,h.thaw_le hle λ_ _ hs=>hs,?_,h.lps_tr Zhc λb r hb=>hbelow.block b (Array.getElem?_eq_some_iff.1 hb).1⟩,hle,hkp,λ_ _ hs=>.inl hs,Zmd (λo' b r ho=>.inr (.inr ⟨o',r,Zhc _ _ _ ho⟩)) ?_⟩;intro o' c g f cs hh;obtain⟨b,bs,h1,h2,c',t,h3,h4,h5⟩:=h.obj o' c g f cs (key _ _ _ _ _ hh);refine⟨b,bs,h1,h2,c',t,?_,h4,h5.mono hle⟩
 show(X.w.alloc _).heap[b]?=_
 rw[hbelow.block b (h.lt (key _ _ _ _ _ hh) h1)];exact h3;exact λo1 c1 g1 f1 l1 o2 c2 g2 f2 l2 b s1 s2 h1 h2=>h.inj o1 c1 g1 f1 l1 o2 c2 g2 f2 l2 b s1 s2 (key _ _ _ _ _ h1) (key _ _ _ _ _ h2);exact λb i hs=>⟨Nat.lt_of_lt_of_le (h.safe b i hs).1 hbelow.size,λo c g fz cs bs ho=>(h.safe b i hs).2 o c g fz cs bs (key _ _ _ _ _ ho)⟩
 have hltm:∀ o' lo' b ks vs,H o'=.mp lo' b ks vs->b<X.w.heap.size:=by
  intro o' lo' b ks vs hh;obtain⟨es,n,h4,_⟩:=(h.mps _ _ _ _ _ hh).is;rw[Array.getElem?_eq_some_iff]at h4;exact h4.1
 intro o' lo' b ks vs hh
 by_cases e:o'=o
 subst e;simp at hh;obtain⟨rfl,rfl,rfl,rfl⟩:=hh;refine⟨hlo,λhs=>absurd (h.safe _ _ hs).1 (Nat.lt_irrefl _),λo2 lo2 ks2 vs2 h2=>?_,#[],0,hb.1,rfl,rfl,λi q1 q2=>by simp at q2,λi q1 q2=>by simp at q2⟩
 by_cases e2:o2=o'
 exact e2;rw[Zi _ _ e2]at h2;have:=hltm _ _ _ _ _ h2;omega;rw[Zi _ _ e]at hh;obtain⟨h1,h2,h3,h4⟩:=hold _ _ _ _ _ hh;refine⟨h1,h2,λo2 lo2 ks2 vs2 h5=>?_,h4⟩
 by_cases e2:o2=o
 subst e2;simp at h5;have:=hltm _ _ _ _ _ hh;omega;rw[Zi _ _ e2]at h5;exact h3 _ _ _ _ h5;rintro b ⟨o',c,g,fz,cs,bs,ho,hβ⟩;exact .inr (.inl ⟨o',c,g,fz,cs,bs,key _ _ _ _ _ ho,hβ⟩)
theorem SatX.mapSet{E:Ent}{s:AS}{a:Act}{w:World}(h:SatX E X s a w){o lo b:Nat}{ks vs ks' vs':List V}(ho:s.H o=.mp lo b ks vs)(hlo:E.N<=lo){es':Array MapEntry}{n':Nat}(hes:EsIs X es' ks' vs'):
  SatX E { X with w:=ChangeMaps.setBlock X.w b (.map es' n') } { s with H:=upd s.H o (.mp lo b ks' vs') } a (ChangeMaps.setBlock X.w b (.map es' n')):=by
 have hI:=h.go.inv;obtain⟨hl1,hfree,hone,es,n,hb,_⟩:=hI.mps o lo b ks vs ho;have hsame:=ChangeMaps.heap_setBlock_same hb (.map es' n');have hother:∀ {i:Nat},i≠b->(ChangeMaps.setBlock X.w b (.map es' n')).heap[i]?=X.w.heap[i]? := λhi=>ChangeMaps.heap_setBlock_other hb _ hi
 have hsz:(ChangeMaps.setBlock X.w b (.map es' n')).heap.size=X.w.heap.size:=by simp[ChangeMaps.setBlock]
 have hne:∀ {k:Nat} {c t f},X.w.heap[k]?=some (Obj.cells c t f)->k≠b:=λhk e=>by subst e;rw[hb]at hk;cases hk
 have hle:X.le { X with w:=ChangeMaps.setBlock X.w b (.map es' n') }:=by
  refine⟨λ_ _ _ h=>h,λ_ _ h=>h,λk i x hs hc=>?_,rfl,λk c t hc=>⟨c,(hother (hne hc)).trans hc,rfl⟩,λk es1 n1 hs hc=>(hother (λe=>hfree (e ▸ hs))).trans hc⟩
  show(ChangeMaps.setBlock X.w b _).cell? ⟨k,i,none⟩=some x
  by_cases e:k=b
  subst e;simp[Cx.cell,World.cell?,hb]at hc;rw[World.cell?_of_block (w:=X.w) (a:=⟨k,i,none⟩) (hother e)];exact hc
 have key:∀ o' c g f cs,upd s.H o (.mp lo b ks' vs') o'=.cells c g f cs->s.H o'=.cells c g f cs:=by
  intro o' c g f cs hh
  by_cases e:o'=o
  subst e;simp at hh;rwa [Zi _ _ e]at hh
 have Zhc:∀ o' b' r,upd s.H o (.mp lo b ks' vs') o'=.lp b' r->s.H o'=.lp b' r:=by
  intro o' b' r hh
  by_cases e:o'=o
  subst e;simp at hh;rwa [Zi _ _ e]at hh
 have hinv:Inv { X with w:=ChangeMaps.setBlock X.w b (.map es' n') } (upd s.H o (.mp lo b ks' vs')):=by
  refine⟨?_,?_,?_,hI.fin,?_,?_,?_,hI.lps_tr Zhc λb1 r h1=>hother (λe=>by subst e;rw[hb]at h1;cases h1)⟩;intro o' c g f cs hh;obtain⟨b',bs,h1,h2,c',t,h3,h4,h5⟩:=hI.obj o' c g f cs (key _ _ _ _ _ hh);exact⟨b',bs,h1,h2,c',t,(hother (hne h3)).trans h3,h4,h5.mono hle⟩;exact λo1 c1 g1 f1 l1 o2 c2 g2 f2 l2 b s1 s2 h1 h2=>hI.inj o1 c1 g1 f1 l1 o2 c2 g2 f2 l2 b s1 s2 (key _ _ _ _ _ h1) (key _ _ _ _ _ h2);exact λb i hs=>⟨by rw[hsz];exact(hI.safe b i hs).1,λo c g fz cs bs ho=>(hI.safe b i hs).2 o c g fz cs bs (key _ _ _ _ _ ho)⟩;rw[hsz];exact hI.bw;exact hI.thaw_le hle λ_ _ hs=>hs;intro o' lo' b' ks1 vs1 hh
  by_cases e:o'=o
  subst e;simp at hh;obtain⟨rfl,rfl,rfl,rfl⟩:=hh;refine⟨hl1,hfree,λo2 lo2 ks2 vs2 h2=>?_,es',n',hsame,hes.1,hes.2.1,λi q1 q2=>(hes.2.2.1 i q1 q2).mono hle,λi q1 q2=>(hes.2.2.2 i q1 q2).mono hle⟩
  by_cases e2:o2=o'
  exact e2;rw[Zi _ _ e2]at h2;exact hone _ _ _ _ h2;rw[Zi _ _ e]at hh;obtain⟨h1,h2,h3,es1,n1,h4,h5,h6,h7,h8⟩:=hI.mps _ _ _ _ _ hh
  have hbb:b'≠b:=λe2=>by subst e2;exact e (hone _ _ _ _ hh)
  refine⟨h1,h2,λo2 lo2 ks2 vs2 q=>?_,es1,n1,(hother hbb).trans h4,h5,h6,λi q1 q2=>(h7 i q1 q2).mono hle,λi q1 q2=>(h8 i q1 q2).mono hle⟩
  by_cases e2:o2=o
  subst e2;simp at q;exact absurd q.2.1.symm hbb;rw[Zi _ _ e2]at q;exact h3 _ _ _ _ q
 refine⟨rfl,⟨hinv,h.go.le.trans hle,⟨h.go.kp.os,h.go.kp.tape,h.go.kp.output,by rw[hsz];exact h.go.kp.size,λk hk hn=>(hother (λe=>hn (.inl zo))).trans (h.go.kp.block k hk hn)⟩,h.go.Sn,Zmd (λo' b' r ho=>h.go.on b' (.inr ⟨o',r,Zhc _ _ _ ho⟩)) ?_⟩,h.df.mono hle (λD hD=>hother (λe=>by subst e;rw[hb]at hD;cases hD)),h.sz,λt=>(h.tm t).mono hle,λg=>⟨(h.gl g).rel.mono hle,?_⟩⟩;rintro b' ⟨o',c,g,fz,cs,bs,ho',hβ⟩;exact h.go.on b' (.inl ⟨o',c,g,fz,cs,bs,key _ _ _ _ _ ho',hβ⟩);have:=(h.gl g).sz;unfold SzK at this⊢
 split
 rename_i c cs hgv;rw[hgv]at this;obtain⟨h0,l,t,fr,h1,h2⟩:=this;exact⟨h0,l,t,fr,(hother (hne h1)).trans h1,h2⟩
 trivial
end
end Go.Hs
