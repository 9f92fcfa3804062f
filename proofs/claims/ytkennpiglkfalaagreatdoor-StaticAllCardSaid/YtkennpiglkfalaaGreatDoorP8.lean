/- A part. No condition. -/
import Derived.Test.YtkennpiglkfalaaGreatDoorP7
import Derived.ChangeMaps4
set_option linter.all false
open Option renaming some->ae,none->ah
open Go.ChangeMaps renaming setBlock->bI
open Go.Instr renaming findKey->a_,findNow->ba,sameNow->bf
open Go.MapKept renaming bytes_beq->bJ
open Go.Result renaming andThen_ok->aB
open Go.Sem renaming run_bind->aC
namespace Go.Hs
section
variable{P:Program}{X:Cx}{H:A'}
def Uk:TypeDesc->V->List V->Option (Option Nat)
 |.int _,.int _ _,[]=>ae ah|.string,.AB _,[]=>ae ah|.int q,.int k a,.int k' b::ks=>if k=k' then(if a=b then ae (ae 0)else(Uk (.int q) (.int k a) ks).map (·.map (· + 1)))else ah|.string,.AB a,.AB b::ks=>if a=b then ae (ae 0)else(Uk .string (.AB a) ks).map (·.map (· + 1))|_,_,_=>ah
def jA{d c x}(u:AI X c x):∀ l ks i r,Uk d x ks=ae r->l.length=ks.length ->
  (∀ i h1 (h2:i<ks.length),AI X l[i].key ks[i]) ->
  match r with|none=>ba d c l i=ae ah|some j=>∃ y,ba d c l i=ae (ae (i+j,y))/\(l[j]?).map (·.key)=ae c
 |[],ks,i,r,h,h1,hk=>by cases ks;cases d<;>cases x<;>simp only[Uk,reduceCtorEq,GI]at h<;>subst h<;>rfl;simp at h1
 |e::l,ks,i,r,h,h1,hk=>by
  rcases ks with _|⟨k,ks⟩;simp at h1;have g:AI X e.key k:=hk 0 zS zS;have F:=λr (h:Uk d x ks=ae r)=>jA u l ks (i+1) r h (zu h1) (λj E D=>by have:=hk (j+1) (zu E) (zu D);simpa using this);have next:∀ r,(Uk d x ks).map (·.map (· + 1))=ae r->ba d c (e::l) i=ba d c l (i+1)->match r with
    |none=>ba d c (e::l) i=ae ah|some j=>∃ y,ba d c (e::l) i=ae (ae (i+j,y))/\((e::l)[j]?).map (·.key)=ae c:=by
   intro r t o;rcases A:Uk d x ks with _|q;rw[A]at t;cases t;rw[A]at t;cases t;have:=F q A;rw[o];rcases q with _|j;exact this;obtain⟨y,h1,h2⟩:=this;refine⟨y,?_,zu h2⟩;simp only at h1⊢;rw[h1,show i+1+j=i+(j+1) by omega]
  cases d<;>cases x<;>(try simp only[Uk,reduceCtorEq]at h);rename_i q G a;cases k<;>simp only[Uk,reduceCtorEq]at h;rename_i k' b;have C:=u.int_inv;have B:=g.int_inv;split at h;rename_i w;subst w;split at h;rename_i f;subst f;cases h;exact⟨e.val,by simp[ba,bf,C,B],by simp[B,C]⟩
  .rename_i f;exact next r h (by have p:=OG f;simp only[ba,bf,C,B,EN,p])
  cases h
  .rename_i a;cases k<;>simp only[Uk,reduceCtorEq]at h;rename_i b;obtain⟨s,n,o⟩:∃ s,c=.string s/\s.data.toList=a:=by cases u with|AB s _ o=>exact⟨s,rfl,o⟩
   generalize m:e.key=H at g;cases g with|AB s' _ hs'=>
   split at h;rename_i f;cases h;have:s=s':=ByteArray.ext (Array.ext' (by rw[o,hs',f]));subst this;have p:(s==s)=true:=(bJ _ _).2 rfl;exact⟨e.val,by simp only[ba,bf,m,n,p];rfl,by simp[m,n]⟩
   .rename_i f;have v:¬s=s':=λz=>f (by rw[<- o,<- hs',z]);have p:(s==s')=false:=by rw[FV];exact λz=>v ((bJ _ _).1 z)
    exact next r h (by simp only[ba,bf,m,n,p])
def KN(kd:TypeDesc)(x v:V)(ks vs:List V):Option (List V×List V):=match Uk kd x ks with|some ah=>ae (ks++[x],vs++[v])|some (ae j)=>ae (ks,vs.set j v)|none=>ah
def EsIs(X:Cx)(es:Array MapEntry)(ks vs:List V):Prop:=es.size=ks.length/\es.size=vs.length/\(∀ i h1 (h2:i<ks.length),AI X es[i].key ks[i])/\(∀ i h1 (h2:i<vs.length),AI X es[i].val vs[i])
def EsIs.push{es ks vs}(h:EsIs X es ks vs){c d x v}(e:AI X c x)(f:AI X d v)(n):EsIs X (es.push ⟨c,d,n⟩) (ks++[x]) (vs++[v]):=by obtain⟨k,h2,j,g⟩:=h;refine⟨by grind,by grind,λi b a=>?_,λi b a=>?_⟩;grind;grind
def EsIs.set{es ks vs}(h:EsIs X es ks vs){c d v j}(l:(es.toList[j]?).map (·.key)=ae c)(k:AI X d v):EsIs X (es.modify j λe=>{e with key:=c,val:=d}) ks (vs.set j v):=by
 obtain⟨o,h2,n,m⟩:=h;have g:j<es.size:=by grind
 have f:es[j].key=c:=by grind
 refine⟨by grind,by grind,λi b a=>?_,λi b a=>?_⟩;grind;grind
def y'{t kt et kd b n es ks vs ks' vs' c d x v}(E:P.underlying t=ae (.map kt et))(z:P.underlying kt=ae kd)(A:X.w.heap[b]?=ae (Obj.map es n))(g:EsIs X es ks vs)(u:AI X c x)(D:AI X d v)(h:KN kd x v ks vs=ae (ks',vs')):∃ es' n',(Instr.mapUpdate t (.map (ae b)) c d).run P X.w=.ok () (bI X.w b (.map es' n'))/\EsIs X es' ks' vs':=by
 unfold KN at h;rcases o:Uk kd x ks with _|r;rw[o]at h;cases h;rw[o]at h;have m:=jA u es.toList ks 0 r o (zu g.1) (λi B h2=>by simpa using g.2.2.1 i (zu B) h2);have p:(∃ q,kd=.int q)\/kd=.string:=by cases kd<;>cases x<;>simp[Uk]at o⊢
 have f:(Instr.checkKey false 10000 kt c).run P X.w=.ok () X.w:=by rcases p with ⟨q,rfl⟩|rfl;unfold Instr.checkKey;simp only[aC,Zt z,aB];rfl;unfold Instr.checkKey;simp only[aC,Zt z,aB];rfl
 rcases r with _|j;simp only[GI,cY]at h;obtain⟨rfl,rfl⟩:=h;simp only at m;have a:(a_ kt c es.toList).run P X.w=.ok ah X.w:=by simp only[a_,aC,Zt z,aB,m,Sem.run_pure]
 refine⟨es.push ⟨c,d,n⟩,n+1,?_,g.push u D n⟩;simp only[Instr.mapUpdate,aC,Zt E,aB,MapKept.run_getObj_map A,f,a,MapKept.run_setObj_map _ A];rfl;simp only[GI,cY]at h;obtain⟨rfl,rfl⟩:=h;obtain⟨y,B,h2⟩:=m;rw[EE]at B;have a:(a_ kt c es.toList).run P X.w=.ok (ae (j,y)) X.w:=by simp only[a_,aC,Zt z,aB,B,Sem.run_pure]
 have C:((es[j]?).map (·.key)).getD c=c:=by rw[<- PU,h2];rfl
 have l:Instr.sameBits 10000 c c=true:=by
  rcases p with ⟨q,rfl⟩|rfl
  .cases x<;>try(simp[Uk]at o;done)
   have:=u.int_inv;subst this;simp[Instr.sameBits]
  .cases x<;>try(simp[Uk]at o;done)
   rcases u with⟨s,_,hs⟩;simp only[Instr.sameBits];exact(bJ _ _).2 rfl
 have k:(Instr.keyThatStays c c).run P X.w=.ok c X.w:=by unfold Instr.keyThatStays;rw[AF l];simp only[Sem.run_pure]
 refine⟨es.modify j λe=>{e with key:=c,val:=d},n,?_,g.set h2 D⟩;simp only[Instr.mapUpdate,aC,Zt E,aB,MapKept.run_getObj_map A,f,a,C,k,MapKept.run_setObj_map _ A];rfl
def nR(h:BZ X H)(o lo)(P:lo<=X.w.heap.size):BH X H {X with w:=X.w.alloc (.map #[] 0)} (Ye H o (.mp lo X.w.heap.size [] [])):=by
 have Q:=MapKept.heap_alloc X.w (.map #[] 0);have a:RowKit.Below _ _ (X.w.alloc (.map #[] 0)):=(RowKit.Below.refl _ _).alloc (BO _) _;have v:∀ b i x,X.cell b i=ae x->(X.w.alloc _).cell? _=ae x:=λb i x y=>
  (a.cell (show(⟨b,i,ah⟩:Addr).block<X.w.heap.size from World.block_lt_of_cell? _ _ y)).trans y
 have p:X.le {X with w:=X.w.alloc (.map #[] 0)}:=⟨λ_ _ _ h=>h,λ_ _ h=>h,λb i x _ y=>v b i x y,rfl,λb c t y=>⟨c,by
   grind,rfl⟩,λb es n _ y=>by
   grind⟩
 have E:E_ (Wk X H) _ _:=⟨a.os,a.tape,a.output,a.size,λk hk _=>a.block k hk⟩;have l:∀ d c g f q,Ye H o (.mp lo X.w.heap.size [] []) d=.cells c g f q->H d=.cells c g f q:=by intro d c g f q j;by_cases e:d=o;subst e;simp at j;rwa [Zy _ _ e]at j
 have St:∀ d b r,Ye H o (.mp lo X.w.heap.size [] []) d=.lp b r->H d=.lp b r:=by intro d b r j;by_cases e:d=o;subst e;simp at j;rwa [Zy _ _ e]at j
 have C:=h.mps_tr p (λ_ _ _ _ _ h=>h) E λ_ _ m=>.inl m;refine⟨⟨?_,?_,?_,h.CK,CT h.bw a.size,h.thaw_le p λ_ _ m=>m,?_,h.lps_tr St λb r Q=>a.block b (DB.1 Q).1⟩,p,E,λ_ _ m=>.inl m,Ue (λd b r D=>.inr (.inr ⟨d,r,St _ _ _ D⟩)) ?_⟩;intro d c g f q j;obtain⟨b,I,A,h2,c',t,R,z,F⟩:=h.DQ d c g f q (l _ _ _ _ _ j);refine⟨b,I,A,h2,c',t,?_,z,F.mono p⟩;rw[a.block b (h.lt (l _ _ _ _ _ j) A)];exact R;exact λW c1 g1 f1 l1 B c2 g2 f2 Y b U T A h2=>h.inj W c1 g1 f1 l1 B c2 g2 f2 Y b U T (l _ _ _ _ _ A) (l _ _ _ _ _ h2);exact λb i m=>⟨GU (h.DD b i m).1 a.size,λo c g S q I D=>(h.DD b i m).2 o c g S q I (l _ _ _ _ _ D)⟩;have s:∀ d u b O K,H d=.mp u b O K->b<X.w.heap.size:=by intro d u b O K j;obtain⟨es,n,z,_⟩:=(h.KB _ _ _ _ _ j).is;rw[DB]at z;exact z.1
 intro d u b O K j;by_cases e:d=o;subst e;simp at j;obtain⟨rfl,rfl,rfl,rfl⟩:=j;refine⟨P,λm=>absurd (h.DD _ _ m).1 (LM _),λB M N J h2=>?_,#[],0,Q.1,rfl,rfl,λi V L=>by simp at L,λi V L=>by simp at L⟩;by_cases G:B=d;exact G;rw[Zy _ _ G]at h2;have:=s _ _ _ _ _ h2;omega;rw[Zy _ _ e]at j;obtain⟨A,h2,R,z⟩:=C _ _ _ _ _ j;refine⟨A,h2,λB M N J F=>?_,z⟩;by_cases G:B=o;subst G;simp at F;have:=s _ _ _ _ _ j;omega;rw[Zy _ _ G]at F;exact R _ _ _ _ F;rintro b ⟨d,c,g,S,q,I,D,hβ⟩;exact .inr (.inl ⟨d,c,g,S,q,I,l _ _ _ _ _ D,hβ⟩)
def EF.mapSet{E s a w}(h:EF E X s a w){o lo b ks vs ks' vs'}(R:s.H o=.mp lo b ks vs)(hlo:E.N<=lo){es' n'}(C:EsIs X es' ks' vs'):EF E {X with w:=bI X.w b (.map es' n')} {s with H:=Ye s.H o (.mp lo b ks' vs')} a (bI X.w b (.map es' n')):=by
 have A:=h.go.BJ;obtain⟨hl1,v,F,es,n,U,_⟩:=A.KB o lo b ks vs R;have K:=ChangeMaps.heap_setBlock_same U (.map es' n');have d:∀ {i},i≠b->(bI _ b (.map es' n')).heap[i]?=X.w.heap[i]? := λhi=>ChangeMaps.heap_setBlock_other U _ hi;have J:(bI X.w b (.map es' n')).heap.size=X.w.heap.size:=by simp[bI]
 have M:∀ {k} {c t f},X.w.heap[k]?=ae (Obj.cells c t f)->k≠b:=λhk e=>by grind
 have j:X.le {X with w:=bI X.w b (.map es' n')}:=by refine⟨λ_ _ _ h=>h,λ_ _ h=>h,λk i x L O=>?_,rfl,λk c t O=>⟨c,(d (M O)).trans O,rfl⟩,λk V n1 L O=>(d (λe=>v (e ▸ L))).trans O⟩;show(bI _ b _).cell? _=ae x;by_cases e:k=b;subst e;simp[Cx.cell,World.cell?,U]at O;rw[World.cell?_of_block (d e)];exact O
 have u:∀ m c g f B,Ye s.H o (.mp lo b ks' vs') m=.cells c g f B->s.H m=.cells c g f B:=by intro m c g f B p;by_cases e:m=o;subst e;simp at p;rwa [Zy _ _ e]at p
 have St:∀ m z r,Ye s.H o (.mp lo b ks' vs') m=.lp z r->s.H m=.lp z r:=by intro m z r p;by_cases e:m=o;subst e;simp at p;rwa [Zy _ _ e]at p
 have S:BZ {X with w:=bI X.w b (.map es' n')} (Ye s.H o (.mp lo b ks' vs')):=by
  refine⟨?_,?_,?_,A.CK,?_,?_,?_,A.lps_tr St λb1 r y=>d (λe=>by subst e;rw[U]at y;cases y)⟩;intro m c g f B p;obtain⟨z,W,y,h2,c',t,Y,h4,h5⟩:=A.DQ m c g f B (u _ _ _ _ _ p);exact⟨z,W,y,h2,c',t,(d (M Y)).trans Y,h4,h5.mono j⟩;exact λo1 c1 g1 f1 l1 Q c2 g2 f2 l2 b s1 s2 y h2=>A.inj o1 c1 g1 f1 l1 Q c2 g2 f2 l2 b s1 s2 (u _ _ _ _ _ y) (u _ _ _ _ _ h2);exact λb i L=>⟨by rw[J];exact(A.DD b i L).1,λo c g fz B W R=>(A.DD b i L).2 o c g fz B W (u _ _ _ _ _ R)⟩;rw[J];exact A.bw;exact A.thaw_le j λ_ _ L=>L;intro m lo' z ks1 vs1 p;by_cases e:m=o;subst e;simp at p;obtain⟨rfl,rfl,rfl,rfl⟩:=p;refine⟨hl1,v,λQ lo2 ks2 vs2 h2=>?_,es',n',K,C.1,C.2.1,λi I G=>(C.2.2.1 i I G).mono j,λi I G=>(C.2.2.2 i I G).mono j⟩;by_cases P:Q=m;exact P;rw[Zy _ _ P]at h2;exact F _ _ _ _ h2;rw[Zy _ _ e]at p;obtain⟨y,h2,Y,V,n1,h4,h5,h6,h7,h8⟩:=A.KB _ _ _ _ _ p;have T:z≠b:=λP=>by subst P;exact e (F _ _ _ _ p)
  refine⟨y,h2,λQ lo2 ks2 vs2 q=>?_,V,n1,(d T).trans h4,h5,h6,λi I G=>(h7 i I G).mono j,λi I G=>(h8 i I G).mono j⟩;by_cases P:Q=o;subst P;simp at q;exact absurd q.2.1.symm T;rw[Zy _ _ P]at q;exact Y _ _ _ _ q
 refine⟨rfl,⟨S,h.go.le.trans j,⟨h.go.kp.os,h.go.kp.tape,h.go.kp.output,by rw[J];exact h.go.kp.size,λk hk hn=>(d (λe=>hn (.inl zo))).trans (h.go.kp.block k hk hn)⟩,h.go.Sn,Ue (λm z r R=>h.go.on z (.inr ⟨m,r,St _ _ _ R⟩)) ?_⟩,h.df.mono j (λD hD=>d (λe=>by subst e;rw[U]at hD;cases hD)),h.sz,λt=>(h.tm t).mono j,λg=>⟨(h.gl g).CV.mono j,?_⟩⟩;rintro z ⟨m,c,g,fz,B,W,ho',hβ⟩;exact h.go.on z (.inl ⟨m,c,g,fz,B,W,u _ _ _ _ _ ho',hβ⟩);have:=(h.gl g).sz;unfold SzK at this⊢;split;rename_i c B hgv;rw[hgv]at this;obtain⟨h0,l,t,fr,y,h2⟩:=this;exact⟨h0,l,t,fr,(d (M y)).trans y,h2⟩;trivial
