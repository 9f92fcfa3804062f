/- A part. No condition. -/
import Derived.Test.YtjplgaebbfabnaaGreatDoorP7
import Derived.ChangeMaps4
set_option linter.all false
namespace Go.Hs
section
variable{P:Program}{X:Cx}{H:Heap}
def Vu:TypeDesc->V->List V->Option (Option Nat)
 |.int _,.int _ _,[]=>some none
 |.string,.str _,[]=>some none
 |.int q,.int k a,.int k' b::ks=>if k=k' then(if a=b then some (some 0)else(Vu (.int q) (.int k a) ks).map (·.map (· + 1)))else none
 |.string,.str a,.str b::ks=>if a=b then some (some 0)else(Vu .string (.str a) ks).map (·.map (· + 1))
 |_,_,_=>none
theorem C9{d:TypeDesc}{c:Value}{x:V}(u:Rel X c x):∀ (l:List MapEntry) (ks:List V) (i:Nat) (r:Option Nat),Vu d x ks=some r->l.length=ks.length ->
  (∀ i (h1:i<l.length) (h2:i<ks.length),Rel X l[i].key ks[i]) ->
  match r with
  |none=>Instr.findNow d c l i=some none
  |some j=>∃ y,Instr.findNow d c l i=some (some (i+j,y))/\(l[j]?).map (·.key)=some c
 |[],ks,i,r,h,h1,hk=>by
  cases ks with
  |cons=>simp at h1
  |nil=>cases d<;>cases x<;>simp only[Vu,reduceCtorEq,Option.some.injEq]at h<;>subst h<;>rfl
 |e::l,ks,i,r,h,h1,hk=>by
  cases ks with
  |nil=>simp at h1
  |cons k ks=>
   have g:Rel X e.key k:=hk 0 zS zS;have F:=λr (h:Vu d x ks=some r)=>C9 u l ks (i+1) r h (zu h1) (λj E D=>by have:=hk (j+1) (zu E) (zu D);simpa using this)
   have next:∀ r,(Vu d x ks).map (·.map (· + 1))=some r->Instr.findNow d c (e::l) i=Instr.findNow d c l (i+1)->match r with
     |none=>Instr.findNow d c (e::l) i=some none
     |some j=>∃ y,Instr.findNow d c (e::l) i=some (some (i+j,y))/\((e::l)[j]?).map (·.key)=some c:=by
    intro r t o
    cases A:Vu d x ks with
    |none=>rw[A]at t;cases t
    |some q=>
     rw[A]at t;cases t;have:=F q A;rw[o]
     cases q with
     |none=>exact this
     |some j=>
      obtain⟨y,h1,h2⟩:=this;refine⟨y,?_,zu h2⟩;simp only at h1⊢;rw[h1,show i+1+j=i+(j+1) by omega]
   cases d<;>cases x<;>(try simp only[Vu,reduceCtorEq]at h)
   rename_i q G a
   cases k<;>simp only[Vu,reduceCtorEq]at h
   rename_i k' b;have C:=u.int_inv;have B:=g.int_inv
   split at h
   rename_i w;subst w
   split at h
   rename_i f;subst f;cases h;exact⟨e.val,by simp[Instr.findNow,Instr.sameNow,C,B],by simp[B,C]⟩
   .rename_i f
    exact next r h (by have p:(a==b)=false:=beq_false_of_ne f;simp only[Instr.findNow,Instr.sameNow,C,B,if_true,p])
   cases h
   .rename_i a
    cases k<;>simp only[Vu,reduceCtorEq]at h
    rename_i b
    obtain⟨s,n,o⟩:∃ s,c=.string s/\s.data.toList=a:=by cases u with|str s _ o=>exact⟨s,rfl,o⟩
    generalize m:e.key=H at g
    cases g with
    |str s' _ hs'=>
    split at h
    rename_i f;cases h;have:s=s':=ByteArray.ext (Array.ext' (by rw[o,hs',f]));subst this;have p:(s==s)=true:=(MapKept.bytes_beq _ _).2 rfl;exact⟨e.val,by simp only[Instr.findNow,Instr.sameNow,m,n,p];rfl,by simp[m,n]⟩
    .rename_i f
     have v:¬ s=s':=λz=>f (by rw[<- o,<- hs',z])
     have p:(s==s')=false:=by rw[Bool.eq_false_iff];exact λz=>v ((MapKept.bytes_beq _ _).1 z)
     exact next r h (by simp only[Instr.findNow,Instr.sameNow,m,n,p])
def Ak(kd:TypeDesc)(x v:V)(ks vs:List V):Option (List V×List V):=match Vu kd x ks with
 |some none=>some (ks++[x],vs++[v])
 |some (some j)=>some (ks,vs.set j v)
 |none=>none
def EsIs(X:Cx)(es:Array MapEntry)(ks vs:List V):Prop:=es.size=ks.length/\es.size=vs.length/\(∀ i (h1:i<es.size) (h2:i<ks.length),Rel X es[i].key ks[i])/\(∀ i (h1:i<es.size) (h2:i<vs.length),Rel X es[i].val vs[i])
theorem EsIs.push{es:Array MapEntry}{ks vs:List V}(h:EsIs X es ks vs){c d:Value}{x v:V}(e:Rel X c x)(f:Rel X d v)(n:Nat):EsIs X (es.push ⟨c,d,n⟩) (ks++[x]) (vs++[v]):=by
 obtain⟨l,k,j,g⟩:=h;refine⟨by grind,by grind,λi b a=>?_,λi b a=>?_⟩
 grind
 grind
theorem EsIs.set{es:Array MapEntry}{ks vs:List V}(h:EsIs X es ks vs){c d:Value}{v:V}{j:Nat}(l:(es.toList[j]?).map (·.key)=some c)(k:Rel X d v):EsIs X (es.modify j λe=>{ e with key:=c,val:=d }) ks (vs.set j v):=by
 obtain⟨p,o,n,m⟩:=h
 have g:j<es.size:=by
  grind
 have f:es[j].key=c:=by
  grind
 refine⟨by grind,by grind,λi b a=>?_,λi b a=>?_⟩
 grind
 grind
theorem Zfs{t u J:TypeId}{kd:TypeDesc}{b n:Nat}{es:Array MapEntry}{ks vs z p:List V}{c d:Value}{x v:V}(I:P.underlying t=some (.map u J))(C:P.underlying u=some kd)(D:X.w.heap[b]?=some (Obj.map es n))
  (g:EsIs X es ks vs) (B:Rel X c x) (H:Rel X d v) (h:Ak kd x v ks vs=some (z,p)):
  ∃ es' n',(Instr.mapUpdate t (.map (some b)) c d).run P X.w=.ok () (ChangeMaps.setBlock X.w b (.map es' n'))/\EsIs X es' z p:=by
 unfold Ak at h
 cases o:Vu kd x ks with
 |none=>rw[o]at h;cases h
 |some r=>
  rw[o]at h;have m:=C9 B es.toList ks 0 r o (zu g.1) (λi F E=>by simpa using g.2.2.1 i (zu F) E)
  have A:(∃ q,kd=.int q)\/kd=.string:=by
   cases kd<;>cases x<;>simp[Vu]at o⊢
  have f:(Instr.checkKey false 10000 u c).run P X.w=.ok () X.w:=by
   rcases A with ⟨q,rfl⟩|rfl
   unfold Instr.checkKey;simp only[Sem.run_bind,Zk C,Result.andThen_ok];rfl;unfold Instr.checkKey;simp only[Sem.run_bind,Zk C,Result.andThen_ok];rfl
  cases r with
  |none=>
   simp only[Option.some.injEq,Prod.mk.injEq]at h;obtain⟨rfl,rfl⟩:=h;simp only at m
   have a:(Instr.findKey u c es.toList).run P X.w=.ok none X.w:=by simp only[Instr.findKey,Sem.run_bind,Zk C,Result.andThen_ok,m,Sem.run_pure]
   refine⟨es.push ⟨c,d,n⟩,n+1,?_,g.push B H n⟩;simp only[Instr.mapUpdate,Sem.run_bind,Zk I,Result.andThen_ok,MapKept.run_getObj_map D,f,a,MapKept.run_setObj_map _ D];rfl
  |some j=>
   simp only[Option.some.injEq,Prod.mk.injEq]at h;obtain⟨rfl,rfl⟩:=h;obtain⟨y,F,E⟩:=m;rw[Nat.zero_add]at F
   have a:(Instr.findKey u c es.toList).run P X.w=.ok (some (j,y)) X.w:=by simp only[Instr.findKey,Sem.run_bind,Zk C,Result.andThen_ok,F,Sem.run_pure]
   have G:((es[j]?).map (·.key)).getD c=c:=by
    rw[<- Array.getElem?_toList,E];rfl
   have l:Instr.sameBits 10000 c c=true:=by
    rcases A with ⟨q,rfl⟩|rfl
    .cases x<;>try(simp[Vu]at o;done)
     have:=B.int_inv;subst this;simp[Instr.sameBits]
    .cases x<;>try(simp[Vu]at o;done)
     cases B with
     |str s _ hs=>simp only[Instr.sameBits];exact(MapKept.bytes_beq _ _).2 rfl
   have k:(Instr.keyThatStays c c).run P X.w=.ok c X.w:=by
    unfold Instr.keyThatStays;rw[if_pos l];simp only[Sem.run_pure]
   refine⟨es.modify j λe=>{ e with key:=c,val:=d },n,?_,g.set E H⟩;simp only[Instr.mapUpdate,Sem.run_bind,Zk I,Result.andThen_ok,MapKept.run_getObj_map D,f,a,G,k,MapKept.run_setObj_map _ D];rfl
theorem Z7p(h:Inv X H)(o lo:Nat)(Q:lo<=X.w.heap.size):Goes X H { X with w:=X.w.alloc (.map #[] 0) } (Ya H o (.mp lo X.w.heap.size [] [])):=by
 have R:=MapKept.heap_alloc X.w (.map #[] 0);have a:RowKit.Below X.w.heap.size X.w (X.w.alloc (.map #[] 0)):=(RowKit.Below.refl _ X.w).alloc (Nat.le_refl _) _
 have y:∀ b i x,X.cell b i=some x->(X.w.alloc (.map #[] 0)).cell? ⟨b,i,none⟩=some x:=λb i x z=>
  (a.cell (show(⟨b,i,none⟩:Addr).block<X.w.heap.size from World.block_lt_of_cell? _ _ z)).trans z
 have p:X.le { X with w:=X.w.alloc (.map #[] 0) }:=⟨λ_ _ _ h=>h,λ_ _ h=>h,λb i x _ z=>y b i x z,rfl,λb c t z=>⟨c,by
   grind,rfl⟩,λb es n _ z=>by
   grind⟩
 have F:Keep (Xx X H) X.w (X.w.alloc (.map #[] 0)):=⟨a.os,a.tape,a.output,a.size,λk hk _=>a.block k hk⟩
 have l:∀ d c g f q,Ya H o (.mp lo X.w.heap.size [] []) d=.cells c g f q->H d=.cells c g f q:=by
  intro d c g f q j
  by_cases e:d=o
  subst e;simp at j;rwa [Zp _ _ e]at j
 have Xh:∀ d b r,Ya H o (.mp lo X.w.heap.size [] []) d=.lp b r->H d=.lp b r:=by
  intro d b r j
  by_cases e:d=o
  subst e;simp at j;rwa [Zp _ _ e]at j
 have D:MpOk { X with w:=X.w.alloc (.map #[] 0) } H:=h.mps_tr p (λ_ _ _ _ _ h=>h) F λ_ _ m=>.inl m;refine⟨⟨?_,?_,?_,h.fin,Nat.le_trans h.bw a.size,h.thaw_le p λ_ _ m=>m,?_,h.lps_tr Xh λb r R=>a.block b (Array.getElem?_eq_some_iff.1 R).1⟩,p,F,λ_ _ m=>.inl m,Uw (λd b r E=>.inr (.inr ⟨d,r,Xh _ _ _ E⟩)) ?_⟩;intro d c g f q j;obtain⟨b,J,B,u,c',t,S,A,G⟩:=h.obj d c g f q (l _ _ _ _ _ j);refine⟨b,J,B,u,c',t,?_,A,G.mono p⟩;rw[a.block b (h.lt (l _ _ _ _ _ j) B)];exact S;exact λY c1 g1 f1 l1 C c2 g2 f2 l2 b V U B u=>h.inj Y c1 g1 f1 l1 C c2 g2 f2 l2 b V U (l _ _ _ _ _ B) (l _ _ _ _ _ u);exact λb i m=>⟨Nat.lt_of_lt_of_le (h.safe b i m).1 a.size,λo c g T q J E=>(h.safe b i m).2 o c g T q J (l _ _ _ _ _ E)⟩
 have s:∀ d v b P L,H d=.mp v b P L->b<X.w.heap.size:=by
  intro d v b P L j;obtain⟨es,n,A,_⟩:=(h.mps _ _ _ _ _ j).is;rw[Array.getElem?_eq_some_iff]at A;exact A.1
 intro d v b P L j
 by_cases e:d=o
 subst e;simp at j;obtain⟨rfl,rfl,rfl,rfl⟩:=j;refine⟨Q,λm=>absurd (h.safe _ _ m).1 (Nat.lt_irrefl _),λC N O K u=>?_,#[],0,R.1,rfl,rfl,λi W M=>by simp at M,λi W M=>by simp at M⟩
 by_cases I:C=d
 exact I;rw[Zp _ _ I]at u;have:=s _ _ _ _ _ u;omega;rw[Zp _ _ e]at j;obtain⟨B,u,S,A⟩:=D _ _ _ _ _ j;refine⟨B,u,λC N O K G=>?_,A⟩
 by_cases I:C=o
 subst I;simp at G;have:=s _ _ _ _ _ j;omega;rw[Zp _ _ I]at G;exact S _ _ _ _ G;rintro b ⟨d,c,g,T,q,J,E,hβ⟩;exact .inr (.inl ⟨d,c,g,T,q,J,l _ _ _ _ _ E,hβ⟩)
theorem SatX.mapSet{E:Ent}{s:AS}{a:Act}{w:World}(h:SatX E X s a w){o lo b:Nat}{ks vs y v:List V}(W:s.H o=.mp lo b ks vs)(hlo:E.N<=lo){m:Array MapEntry}{n':Nat}(J:EsIs X m y v):
  SatX E { X with w:=ChangeMaps.setBlock X.w b (.map m n') } { s with H:=Ya s.H o (.mp lo b y v) } a (ChangeMaps.setBlock X.w b (.map m n')):=by
 have F:=h.go.inv;obtain⟨hl1,A,K,es,n,hb,_⟩:=F.mps o lo b ks vs W;have P:=ChangeMaps.heap_setBlock_same hb (.map m n');have d:∀ {i:Nat},i≠b->(ChangeMaps.setBlock X.w b (.map m n')).heap[i]?=X.w.heap[i]? := λhi=>ChangeMaps.heap_setBlock_other hb _ hi
 have O:(ChangeMaps.setBlock X.w b (.map m n')).heap.size=X.w.heap.size:=by simp[ChangeMaps.setBlock]
 have R:∀ {k:Nat} {c t f},X.w.heap[k]?=some (Obj.cells c t f)->k≠b:=λhk e=>by grind
 have j:X.le { X with w:=ChangeMaps.setBlock X.w b (.map m n') }:=by
  refine⟨λ_ _ _ h=>h,λ_ _ h=>h,λk i x Q S=>?_,rfl,λk c t S=>⟨c,(d (R S)).trans S,rfl⟩,λk es1 n1 Q S=>(d (λe=>A (e ▸ Q))).trans S⟩
  show(ChangeMaps.setBlock X.w b _).cell? ⟨k,i,none⟩=some x
  by_cases e:k=b
  subst e;simp[Cx.cell,World.cell?,hb]at S;rw[World.cell?_of_block (w:=X.w) (a:=⟨k,i,none⟩) (d e)];exact S
 have z:∀ p c g f I,Ya s.H o (.mp lo b y v) p=.cells c g f I->s.H p=.cells c g f I:=by
  intro p c g f I u
  by_cases e:p=o
  subst e;simp at u;rwa [Zp _ _ e]at u
 have Xh:∀ p C r,Ya s.H o (.mp lo b y v) p=.lp C r->s.H p=.lp C r:=by
  intro p C r u
  by_cases e:p=o
  subst e;simp at u;rwa [Zp _ _ e]at u
 have Y:Inv { X with w:=ChangeMaps.setBlock X.w b (.map m n') } (Ya s.H o (.mp lo b y v)):=by
  refine⟨?_,?_,?_,F.fin,?_,?_,?_,F.lps_tr Xh λb1 r B=>d (λe=>by subst e;rw[hb]at B;cases B)⟩;intro p c g f I u;obtain⟨C,bs,B,G,c',t,h3,h4,h5⟩:=F.obj p c g f I (z _ _ _ _ _ u);exact⟨C,bs,B,G,c',t,(d (R h3)).trans h3,h4,h5.mono j⟩;exact λo1 c1 g1 f1 l1 U c2 g2 f2 l2 b s1 s2 B G=>F.inj o1 c1 g1 f1 l1 U c2 g2 f2 l2 b s1 s2 (z _ _ _ _ _ B) (z _ _ _ _ _ G);exact λb i Q=>⟨by rw[O];exact(F.safe b i Q).1,λo c g fz I bs W=>(F.safe b i Q).2 o c g fz I bs (z _ _ _ _ _ W)⟩;rw[O];exact F.bw;exact F.thaw_le j λ_ _ Q=>Q;intro p lo' C ks1 vs1 u
  by_cases e:p=o
  subst e;simp at u;obtain⟨rfl,rfl,rfl,rfl⟩:=u;refine⟨hl1,A,λU lo2 ks2 vs2 G=>?_,m,n',P,J.1,J.2.1,λi M L=>(J.2.2.1 i M L).mono j,λi M L=>(J.2.2.2 i M L).mono j⟩
  by_cases T:U=p
  exact T;rw[Zp _ _ T]at G;exact K _ _ _ _ G;rw[Zp _ _ e]at u;obtain⟨B,G,h3,es1,n1,h4,h5,h6,h7,h8⟩:=F.mps _ _ _ _ _ u
  have hbb:C≠b:=λT=>by subst T;exact e (K _ _ _ _ u)
  refine⟨B,G,λU lo2 ks2 vs2 q=>?_,es1,n1,(d hbb).trans h4,h5,h6,λi M L=>(h7 i M L).mono j,λi M L=>(h8 i M L).mono j⟩
  by_cases T:U=o
  subst T;simp at q;exact absurd q.2.1.symm hbb;rw[Zp _ _ T]at q;exact h3 _ _ _ _ q
 refine⟨rfl,⟨Y,h.go.le.trans j,⟨h.go.kp.os,h.go.kp.tape,h.go.kp.output,by rw[O];exact h.go.kp.size,λk hk hn=>(d (λe=>hn (.inl zo))).trans (h.go.kp.block k hk hn)⟩,h.go.Sn,Uw (λp C r W=>h.go.on C (.inr ⟨p,r,Xh _ _ _ W⟩)) ?_⟩,h.df.mono j (λD hD=>d (λe=>by subst e;rw[hb]at hD;cases hD)),h.sz,λt=>(h.tm t).mono j,λg=>⟨(h.gl g).rel.mono j,?_⟩⟩;rintro C ⟨p,c,g,fz,I,bs,ho',hβ⟩;exact h.go.on C (.inl ⟨p,c,g,fz,I,bs,z _ _ _ _ _ ho',hβ⟩);have:=(h.gl g).sz;unfold SzK at this⊢
 split
 rename_i c I hgv;rw[hgv]at this;obtain⟨h0,l,t,fr,B,G⟩:=this;exact⟨h0,l,t,fr,(d (R B)).trans B,G⟩
 trivial
end
end Go.Hs
