/- A part. No condition. -/
import Derived.Test.YtjplgaebbfabnaaGreatDoorP37
import Derived.Test.YtjplgaebbfabnaaGreatDoorP25
set_option linter.all false
namespace Go.Hs
section
variable{P:Program}{E:Ent}{ops:Array Oper}{kp:Kps}
inductive Dep(ops:Array Oper)(i:Nat):Nat->Prop
 |on {j:Nat} {oj:Oper} {e:Edge}:ops[j]?=some oj->e∈oj.after->Region.binds .any e=true->e.on=i->Dep ops i j
 |via {j:Nat} {oj:Oper} {e:Edge}:ops[j]?=some oj->e∈oj.after->Region.binds .any e=true->Dep ops i e.on->Dep ops i j
theorem Av{a:Array Bool}(h:Closed ops a){i:Nat}(hi:a.getD i false=false){j:Nat}(k:Dep ops i j):
  (∀ o,ops[j]?=some o->∀ e∈o.after,Region.binds .any e=true->a.getD e.on false=true)->False:=by
 induction k with
 |on hoj he hb hon=>
  grind
 |via hoj he hb _ ih=>
  intro b;have g:=b _ hoj _ he hb;exact ih λo f l c d=>h _ o f g l c d
theorem Z8k{T:Told}{Q:AS->Prop}{i:Nat}{m:Oper}(p:ops[i]?=some m)(F:Yk (T.bor i) m ≠ .W){D:Nat->Bool}(K:∀ j,D j=true->Dep ops i j):
  ∀ (n:Nat) (listed:Array Bool) (s:AS),Closed ops listed->i∈Region.ready .any ops listed->Zj9 ops T.bor D i m listed ->
   Qe P E kp ops (T.bor i) (T.vs i) m (Qb P E kp ops T Q n (listed.setIfInBounds i true)) s->Qb P E kp ops T Q (n+1) listed s:=by
 intro n
 have q:∀ (listed:Array Bool),i∈Region.ready .any ops listed->listed.getD i false=false:=by
  intro listed c;have R:=(mem_ready.1 c).1
  grind
 have v:∀ (listed:Array Bool),Closed ops listed->i∈Region.ready .any ops listed->∀ j,j∈Region.ready .any ops listed->D j=false:=by
  intro listed w c j d;obtain⟨_,l,a,J⟩:=mem_ready.1 d
  cases H:D j with
  |false=>rfl
  |true=>exact(Av w (q listed c) (K j H) (λo M e N O=>by grind)).elim
 induction n with
 |zero=>
  intro listed s w c C h;refine⟨λy=>(by rw[y]at c;cases c),λj d l a=>?_⟩
  by_cases b:j=i
  subst b;rw[p]at a;cases a;exact h;obtain⟨x,I,_⟩:=Zf5 F h;have:=ready_mono (md:=.any) d b;rw[I]at this;cases this
 |succ n ih=>
  intro listed s w c C h;refine⟨λy=>(by rw[y]at c;cases c),λj d l a=>?_⟩
  by_cases b:j=i
  subst b;rw[p]at a;cases a;exact h;have u:listed.getD j true=false:=(mem_ready.1 d).1;obtain⟨g,G⟩:=C j l a b u (v listed w c j d)
  have I:Qe P E kp ops (T.bor i) (T.vs i) m (Qe P E kp ops (T.bor j) (T.vs j) l (Qb P E kp ops T Q n ((listed.setIfInBounds i true).setIfInBounds j true))) s:=
   Vg (λx f=>f.2 j (ready_mono d b) l a) h
  have L:=Z9h G g I;refine Vg (λx f=>?_) L;refine ih (listed.setIfInBounds j true) x (w.set d) (ready_mono c (Ne.symm b)) ?_ ?_;intro k ok z A r B;refine C k ok z A ?_ B
  by_cases t:k=j
  subst t;exact u;rw[getD_set_ne true (Ne.symm t)]at r;exact r;rw[Array.setIfInBounds_comm _ _ b];exact f
def Oh(ops:Array Oper)(bor:Nat->Md)(c:Cls)(i:Nat)(o:Oper):List Nat->List Nat->Bool
 |_,[]=>true
 |D,j::rest=>match ops[j]? with
  |none=>false
  |some oj=>cond (oj.after.toList.any λe=>Region.binds .any e&&(Nat.beq e.on i||D.any (Nat.beq e.on))) (Oh ops bor c i o (j::D) rest)
   (Pc c (Yk (bor j) oj)&&(o.apart ops oj&&Oh ops bor c i o D rest))
def Jx(ops:Array Oper)(bor:Nat->Md):List Nat->List Nat->Bool
 |_,[]=>true
 |done,i::rest=>match ops[i]? with
  |none=>false
  |some o=>(o.after.toList.all λe => !Region.binds .any e||done.any (Nat.beq e.on))&&(!done.any (Nat.beq i) &&
   ((match Yk (bor i) o with
    |.W=>rest.all λj=>match ops[j]? with|none=>false|some oj=>oj.after.toList.any λe=>Region.binds .any e && !done.any (Nat.beq e.on)
    |c=>Oh ops bor c i o [] rest)&&Jx ops bor (i::done) rest))
theorem N3{l:List Nat}{n:Nat}:l.any (Nat.beq n)=true↔n∈l:=by
 simp
theorem No{bor:Nat->Md}{c:Cls}{i:Nat}{o:Oper}:∀ (rest D:List Nat),(∀ k∈D,Dep ops i k)->Oh ops bor c i o D rest=true ->
  ∃ D':Nat->Bool,(∀ k,D' k=true->Dep ops i k)/\(∀ k∈D,D' k=true)/\∀ j∈rest,D' j=false->∀ oj,ops[j]?=some oj->Pc c (Yk (bor j) oj)=true/\o.apart ops oj=true
 |[],D,hD,_=>⟨λk=>D.any (Nat.beq k),λk b=>hD k (N3.1 b),λk b=>N3.2 b,λj u=>by grind⟩
 |j::rest,D,hD,h=>by
  rw[Oh]at h
  cases d:ops[j]? with
  |none=>grind
  |some oj=>
   rw[d]at h;simp only at h
   cases a:(oj.after.toList.any λe=>Region.binds .any e&&(Nat.beq e.on i||D.any (Nat.beq e.on)))with
   |true=>
    rw[a]at h
    have t:Dep ops i j:=by
     rw[List.any_eq_true]at a;obtain⟨e,v,m⟩:=a;simp only[Bool.and_eq_true,Bool.or_eq_true]at m
     rcases m.2 with n|n
     exact .on d (by grind) m.1 (Nat.eq_of_beq_eq_true n);exact .via d (by grind) m.1 (hD _ (N3.1 n))
    obtain⟨D',r,q,s⟩:=No rest (j::D) (λk b=>by
     grind) h
    refine⟨D',r,λk b=>q k (List.mem_cons_of_mem _ b),λk b l=>?_⟩
    rcases List.mem_cons.1 b with rfl|b
    grind
    grind
   |false=>
    rw[a,cond_false]at h;simp only[Bool.and_eq_true]at h;obtain⟨g,p,h⟩:=h;obtain⟨D',r,q,s⟩:=No rest D hD h;refine⟨D',r,q,λk b l ok f=>?_⟩
    rcases List.mem_cons.1 b with rfl|b
    rw[d]at f;cases f;exact⟨g,p⟩;exact s k b l ok f
def ListedL(ops:Array Oper)(done:List Nat)(listed:Array Bool):Prop:=listed.size=ops.size/\∀ j,j<ops.size->(listed[j]?=some true↔j∈done)/\(listed[j]?=some false↔j∉done)
theorem ListedL.getD{c:List Nat}{a:Array Bool}(h:ListedL ops c a){j:Nat}(d:j<ops.size)(b:Bool):(a.getD j b=true↔j∈c):=by
 obtain⟨f,e⟩:=h.2 j d;rw[Array.getD_eq_getD_getElem?]
 grind
theorem ListedL.next{b:List Nat}{i:Nat}{a:Array Bool}(h:ListedL ops b a)(hi:i<ops.size):ListedL ops (i::b) (a.setIfInBounds i true):=by
 refine⟨by rw[Array.size_setIfInBounds];exact h.1,λj c=>?_⟩;rw[Array.getElem?_setIfInBounds];obtain⟨e,d⟩:=h.2 j c
 grind
theorem Qa{T:Told}{Q:AS->Prop}:∀ (rest done:List Nat) (listed:Array Bool) (s:AS),(∀ k∈done,k<ops.size)->(∀ j,j<ops.size->j∈done\/j∈rest)->ListedL ops done listed->Closed ops listed->Jx ops T.bor done rest=true ->
  Q6 P E kp ops T Q rest s->Qb P E kp ops T Q rest.length listed s
 |[],done,listed,s,_,hall,hL,_,_,h=>by
  refine⟨?_,h⟩;rw[List.eq_nil_iff_forall_not_mem];intro j z;obtain⟨O,o,M,_⟩:=mem_ready.1 z
  have l:j<ops.size:=by rw[Array.getElem?_eq_some_iff]at M;exact M.1
  have H:j∈done:=by
   rcases hall j l with q|q
   exact q;cases q
  have:=(hL.getD l true).2 H;rw[this]at O;cases O
 |i::rest,done,listed,s,hdone,hall,hL,hc,hok,h=>by
  rw[Jx]at hok
  cases b:ops[i]? with
  |none=>rw[b]at hok;cases hok
  |some o=>
  rw[b]at hok;simp only[Bool.and_eq_true]at hok;obtain⟨B,n,m,v⟩:=hok
  have w:i<ops.size:=by rw[Array.getElem?_eq_some_iff]at b;exact b.1
  have n:i∉done:=by
   intro G;rw[N3.2 G]at n;cases n
  simp only[Q6,b]at h
  have C:i∈Region.ready .any ops listed:=by
   refine mem_ready.2 ⟨?_,o,b,λe I J=>?_⟩
   .cases G:listed.getD i true with
    |false=>rfl
    |true=>exact absurd ((hL.getD w true).1 G) n
   rw[List.all_eq_true]at B;have:=B e (zu I);rw[J]at this;simp only[Bool.not_true,Bool.false_or]at this;have N:=N3.1 this
   by_cases p:e.on<ops.size
   exact(hL.getD p false).2 N;exact absurd (hdone _ N) p
  have U:∀ A,Q6 P E kp ops T Q rest A->Qb P E kp ops T Q rest.length (listed.setIfInBounds i true) A:=λA F=>Qa rest (i::done) _ A (λk y=>by
   rcases List.mem_cons.1 y with rfl|y
   exact w
   exact hdone k y) (λj z=>by
   rcases hall j z with q|q
   exact .inl (List.mem_cons_of_mem _ q)
   rcases List.mem_cons.1 q with rfl|q
   exact .inl (List.mem_cons_self ..)
   exact .inr q) (hL.next w) (hc.set C) v F
  have R:=Vg U h
  have c:∀ j u,ops[j]?=some u->j≠i->listed.getD j true=false->j∈rest:=by
   intro j u a f d
   have l:j<ops.size:=by rw[Array.getElem?_eq_some_iff]at a;exact a.1
   rcases hall j l with q|q
   rw[(hL.getD l true).2 q]at d;cases d;exact(List.mem_cons.1 q).resolve_left f
  by_cases K:Yk (T.bor i) o=.W
  rw[K]at m;simp only at m;refine⟨λB=>(by rw[B]at C;cases C),λj z u a=>?_⟩
  by_cases f:j=i
  subst f;rw[b]at a;cases a;exact R
  exfalso
  obtain⟨d,S,r,x⟩:=mem_ready.1 z;rw[a]at r;cases r;rw[List.all_eq_true]at m;have:=m j (c j u a f d);rw[a]at this;simp only[List.any_eq_true,Bool.and_eq_true]at this;obtain⟨e,I,J,t⟩:=this;have g:=x e (zu I) J
  by_cases p:e.on<ops.size
  have:=N3.2 ((hL.getD p false).1 g);rw[this]at t;cases t;rw[Array.getD_eq_getD_getElem?,Array.getElem?_eq_none (by rw[hL.1];omega)]at g;simp at g
  have V:Oh ops T.bor (Yk (T.bor i) o) i o [] rest=true:=by
   revert m K
   cases Yk (T.bor i) o<;>first|exact λh _=>h|(intro _ h;exact absurd rfl h)
  obtain⟨D,Y,_,X⟩:=No rest [] (λk y=>by cases y) V;exact Z8k b K Y rest.length listed s hc C (λj u a f d L=>X j (c j u a f d) L u a) R
theorem Zm6{ops:Array Oper}{Q:AS->Prop}{T:Told}(o:Oper)(k:Nat)(s:AS)(h:Xg P E kp ops Q T k [o] s):Qe P E kp ops (T.bor k) (T.vs k) o Q s:=by
 have N:∀ s',Xg P E kp ops Q T (k+1) [] s'->Q s':=λ_ h=>h;unfold Qe;simp only[Xg]at h
 cases L:Z8 ops s.τ o with
 |none=>rw[L]at h;exact h.elim
 |some b=>
  rw[L]at h
  cases b with
  |false=>exact h
  |true=>
   simp only[P2]at h⊢
   split at h
   .rename_i f B I hop
    obtain⟨w,J,z,pos,after,q⟩:=o;simp only at hop;subst hop
    cases p:T.bor k with
    |any=>
     rw[p,Zvc]at h;have C:=Xn (K':=λu n=>KpH P kp n/\Q (AS.put { s with H:=n } w u)) (λv n i=>Lt.1 i) h;unfold Xt;exact C
    |keep=>
     rw[p,Co]at h;have C:=Xn (K':=λu n=>KpH P kp n/\Q (AS.put { s with H:=n } w u)) (λv n i=>Lt.1 i) h;unfold Xt;exact C
    |lend=>
     rw[p]at h;obtain⟨g,A⟩:=h;unfold Mk at g;unfold Xt
     split at g
     rename_i F first G D;simp only[Yk,D];exact⟨g,A⟩;exact g.elim
    |pure=>
     rw[p]at h;obtain⟨g,A⟩:=h;unfold Mk at g;unfold Xt
     split at g
     rename_i F first G D;simp only[Yk,D];exact⟨g,A⟩;exact g.elim
    |own=>
     rw[p]at h;obtain⟨g,A⟩:=h;unfold Mk at g;unfold Xt
     split at g
     rename_i F first G D;simp only[Yk,D];exact⟨g,A⟩;exact g.elim
   .rename_i t x hop
    obtain⟨w,J,z,pos,after,q⟩:=o;simp only at hop;subst hop
    cases p:T.bor k with
    |lend=>
     rw[p,Ct,Kf]at h;unfold Xt;simp only[Yk,Ki]
     cases M:Vo P t (s.ev E x)with
     |none=>rw[M]at h;exact h.elim
     |some u=>rw[M]at h;exact h
    |keep=>
     rw[p,Cu]at h;unfold Xt;simp only[Yk,Ki];exact h
    |pure=>
     rw[p,Cs]at h;unfold Xt;exact h
    |own=>
     rw[p,Z1c]at h;unfold Xt;exact h
    |any=>
     rw[p,Z2c]at h;unfold Xt;exact h
   .rename_i hne hnl
    obtain⟨g,A⟩:=h
    have e:Nd o=true->Yy P E s o λv n=>Q (AS.put { s with H:=n } o.dst v):=λK=>
     Xn (λv n i=>(by rw[K]at i;exact i)) A
    have j:Nd o=false->Yy P E s o λv n=>KpH P kp n/\Q (AS.put { s with H:=n } o.dst v):=λK=>
     Xn (λv n i=>(by rw[K]at i;exact Lt.1 i)) A
    obtain⟨w,J,z,pos,after,q⟩:=o;unfold Xt
    cases J<;>try(first|exact e rfl|exact j rfl|exact absurd rfl (hnl _ _))
    case makeMap t r=>
     cases r with
     |some r=>exact j rfl
     |none=>
      obtain⟨d,l,a⟩:=g rfl;simp only at l;subst l;exact⟨a,e rfl⟩
    obtain⟨d,l,a⟩:=g rfl;simp only at l;subst l;exact⟨a,e rfl⟩;obtain⟨d,l,a⟩:=g rfl;simp only at l;subst l;exact⟨a,e rfl⟩;obtain⟨d,l,a⟩:=g rfl;simp only at l;subst l;exact⟨a,e rfl⟩;obtain⟨d,l,a⟩:=g rfl;simp only at l;subst l;exact⟨a,e rfl⟩
    .rename_i c
     obtain⟨y,B,I⟩:=c
     cases y with
     |value f=>exact absurd rfl (hne f B I)
     |invoke r m=>exact j rfl
     |builtin b=>cases b<;>first|exact e rfl|exact j rfl
def Jy(P:Program)(E:Ent)(kp:Kps)(ops:Array Oper)(Q:AS->Prop)(T:Told):List Nat->AS->Prop
 |[],s=>Q s
 |i::rest,s=>match ops[i]? with
  |some o=>Xg P E kp ops (Jy P E kp ops Q T rest) T i [o] s
  |none=>False
theorem Oj{Q:AS->Prop}{T:Told}:∀ (l:List Nat) (s:AS),Jy P E kp ops Q T l s->Q6 P E kp ops T Q l s
 |[],s,h=>h
 |i::rest,s,h=>by
  rw[Jy]at h;rw[Q6]
  cases c:ops[i]? with
  |none=>grind
  |some o=>
   rw[c]at h;exact Vg (λb a=>Oj rest b a) (Zm6 o i s h)
@[go_sem] theorem opsO_nil{Q:AS->Prop}{T:Told}(s:AS):Jy P E kp ops Q T [] s=Q s:=rfl
def Zux(o:Option Oper)(K:Oper->Prop):Prop:=match o with|some x=>K x|none=>False
@[go_sem] theorem optO'_some(x:Oper)(K:Oper->Prop):Zux (some x) K=K x:=rfl
@[congr] theorem Zfca{o o':Option Oper}{K:Oper->Prop}(h:o=o'):Zux o K=Zux o' K:=by rw[h]
@[go_sem] theorem opsO_cons{Q:AS->Prop}{T:Told}(l:List Oper)(i:Nat)(rest:List Nat)(s:AS):Jy P E kp ⟨l⟩ Q T (i::rest) s=Zux (l[i]?) λo=>Xg P E kp ⟨l⟩ (Jy P E kp ⟨l⟩ Q T rest) T i [o] s:=by
 rw[Jy];simp only[List.getElem?_toArray]
 cases l[i]? <;> rfl
theorem B9{id:Nat}{Q:Exit->AS->Prop}{s:AS}(ord:List Nat)(kp:Kps)(T:Told)(r:P.follows .mixedOrders=true)(x:Y6 E.G)(u:(ops.all (Wo E.n))=true)
  (l:Jx ops T.bor [] ord=true) (e:(List.range ops.size).all (λj=>ord.any (Nat.beq j))=true) (d:Nat.beq ord.length ops.size=true) (h:Jy P E kp ops (Q .normal) T ord s):AW P E (.region id ops true) Q s:=by
 intro a w q;refine wpIn_region_any r ?_
 have i:Mb E s a { w with drawn:=w.drawn+1 }:=by
  obtain⟨X,b⟩:=q;have f:=Goes.drew b.go.inv (w.drawn+1);refine⟨{ X with w:={ X.w with drawn:=w.drawn+1 } },by rw[b.hw],b.on_ f,b.df.go b.go.inv f,b.sz,λt=>(b.tm t).mono f.le,λg=>(b.gl g).go b.go.inv f⟩
 have v:Closed ops (Array.replicate ops.size false):=by
  intro k o _ m;simp only[Array.getD_eq_getD_getElem?,Array.getElem?_replicate]at m
  grind
 have c:=Qa (P:=P) (E:=E) (kp:=kp) (T:=T) (Q:=Q .normal) ord [] (Array.replicate ops.size false) s (λk m=>by grind) (λj p=>.inr (by
  rw[List.all_eq_true]at e
  simp_all)) ⟨zS,λj p=>by simp[p]⟩ v l (Oj ord s h)
 rw[Nat.eq_of_beq_eq_true d]at c;exact O3 x (R:=Post E Q) (λA a w h=>.inr ⟨A,rfl,h⟩) (λs a w z y=>.inl ⟨s,z,y⟩) u ops.size _ s a _ i c
end
section
variable{P:Program}{E:Ent}{ops:Array Oper}{kp:Kps}
def Zwj(ops:Array Oper)(n:Nat):Bool:=
 (List.range n).all (λk=>(List.range (n+1)).any λj=>Nat.blt k j&&(match ops[j]? with|some o=>o.after.toList.any λe=>Region.binds .any e&&Nat.beq e.on k|none=>false)) &&
 (List.range ops.size).all λj=>match ops[j]? with
  |some o=>(match o.guard with|some (g,_)=>Nat.ble n j||Nat.blt g n|none=>true)&&(o.after.toList.all λe => !Region.binds .any e||Nat.blt e.on j)&&(Nat.ble j n||o.after.toList.any λe=>Region.binds .any e&&Nat.beq e.on (j-1))
  |none=>true
structure LastP(ops:Array Oper)(n:Nat):Prop where
 lt:n<ops.size
 pre:∀ k,k<n->∃ j o,k<j/\j<=n/\ops[j]?=some o/\∃ e∈o.after,Region.binds .any e=true/\e.on=k
 back:∀ j o,ops[j]?=some o->∀ e∈o.after,Region.binds .any e=true->e.on<j
 gd:∀ j o g b,j<n->ops[j]?=some o->o.guard=some (g,b)->g<n
 suf:∀ j o,n<j->ops[j]?=some o->∃ e∈o.after,Region.binds .any e=true/\e.on=j-1
theorem LastP.of{n:Nat}(h:Zwj ops n=true)(r:Nat.blt n ops.size=true):LastP ops n:=by
 unfold Zwj at h;rw[Bool.and_eq_true]at h;obtain⟨q,p⟩:=h;rw[List.all_eq_true]at q p
 have d:∀ j o,ops[j]?=some o->((match o.guard with|some (g,_)=>Nat.ble n j||Nat.blt g n|none=>true)=true/\(o.after.toList.all λe => !Region.binds .any e||Nat.blt e.on j)=true)/\(Nat.ble j n||o.after.toList.any λe=>Region.binds .any e&&Nat.beq e.on (j-1))=true:=λj o a=>by
  have f:j<ops.size:=(Array.getElem?_eq_some_iff.1 a).1;have:=p j (List.mem_range.2 f);rw[a]at this;simpa only[Bool.and_eq_true]using this
 refine⟨by rwa [Nat.blt_eq]at r,λk s=>?_,λj o a e i u=>?_,λj o g b f a t=>?_,λj o f a=>?_⟩;have:=q k (List.mem_range.2 s);rw[List.any_eq_true]at this;obtain⟨j,f,m⟩:=this;rw[Bool.and_eq_true,Nat.blt_eq]at m;obtain⟨m,l⟩:=m
 split at l
 rename_i o a;rw[List.any_eq_true]at l;obtain⟨e,i,c⟩:=l;rw[Bool.and_eq_true,Nat.beq_eq]at c;exact⟨j,o,m,by have:=List.mem_range.1 f;omega,a,e,zu i,c.1,c.2⟩;cases l;have:=(d j o a).1.2;rw[List.all_eq_true]at this;have:=this e (zu i);rw[u,Bool.not_true,Bool.false_or,Nat.blt_eq]at this;exact this;have:=(d j o a).1.1;rw[t]at this;simp only[Bool.or_eq_true,Nat.ble_eq,Nat.blt_eq]at this;omega;have:=(d j o a).2;rw[Bool.or_eq_true]at this
 rcases this with this|this
 rw[Nat.ble_eq]at this;omega;rw[List.any_eq_true]at this;obtain⟨e,i,c⟩:=this;rw[Bool.and_eq_true,Nat.beq_eq]at c;exact⟨e,zu i,c.1,c.2⟩
def Upto(ops:Array Oper)(k:Nat)(L:Array Bool):Prop:=(∀ i,i<k->L.getD i false=true)/\∀ i,k<=i->i<ops.size->L.getD i true=false
theorem LastP.all{n:Nat}(h:LastP ops n){L:Array Bool}(i:Closed ops L)(hi:n∈Region.ready .any ops L):∀ d k,n-k=d->k<n->L.getD k false=true:=by
 obtain⟨_,on,b,a⟩:=mem_ready.1 hi;intro d
 induction d using Nat.strongRecOn with
 |_ d ih=>
  intro k p f;obtain⟨j,o,r,q,c,e,g,l,rfl⟩:=h.pre k f
  by_cases m:j=n
  grind
  have:=ih (n-j) zo j rfl zo;exact i j o c this e g l
theorem LastP.ready_upto{n k:Nat}(h:LastP ops n)(p:n<=k){L:Array Bool}(c:Upto ops k L){i:Nat}(hi:i∈Region.ready .any ops L):i=k:=by
 obtain⟨s,o,d,a⟩:=mem_ready.1 hi;have m:i<ops.size:=(Array.getElem?_eq_some_iff.1 d).1
 by_cases b:i<k
 have:=c.1 i b
 grind
 by_cases f:k<i
 obtain⟨e,j,l,g⟩:=h.suf i o zo d;have r:=a e j l;have q:=c.2 (i-1) zo zo
 grind
 omega
theorem Upto.set{k:Nat}{L:Array Bool}(h:Upto ops k L)(b:k<L.size):Upto ops (k+1) (L.setIfInBounds k true):=by
 refine⟨λi c=>?_,λi d a=>?_⟩
 by_cases e:i=k
 simp_all;rw[getD_set_ne false (Ne.symm e)];exact h.1 i zo;rw[getD_set_ne true zo];exact h.2 i zo a
theorem Zzb{n:Nat}{τ : Nat->V}{o:Oper}(a:∀ g b,o.guard=some (g,b)->g<n):Z8 (ops.toList.take n).toArray τ o=Z8 ops τ o:=by
 unfold Z8
 grind
theorem Ze5{n:Nat}{bor:Md}{v:V}{o:Oper}{K:AS->Prop}{s:AS}(a:∀ g b,o.guard=some (g,b)->g<n)(h:Qe P E kp (ops.toList.take n).toArray bor v o K s):Qe P E kp ops bor v o K s:=by
 unfold Qe at *;rw[Zzb a]at h;exact h
theorem Zs6{R:Exit->Act->World->Prop}(z:∀ ch a w,Pan E ch a w->R (.panic ch) a w)(q:(ops.all (Wo E.n))=true){i:Nat}{o:Oper}(u:ops[i]?=some o){s:AS}{a:Act}{w:World}(t:Mb E s a w){N:AS->Prop}{K:Act->World->Prop}
  (g:match Z8 ops s.τ o with
   |some true=>Yy P E s o λv H'=>N (AS.put { s with H:=H' } o.dst v)
   |some false=>N (s.put o.dst (.tuple []))
   |none=>False) (r:∀ s a w,Mb E s a w->N s->K a w):wpOpIn E.rk.F 0 P ops R i K a w:=by
 obtain⟨X,k⟩:=t
 have f:∀ (l:Oper) d,l∈ops->l.dst=some d->d<E.n:=by
  intro l d x e;rw[Array.all_eq_true']at q;have:=q l x;unfold Wo at this
  grind
 have j:o∈ops:=by grind
 unfold wpOpIn;simp only[u]
 cases h:Z8 ops s.τ o with
 |none=>grind
 |some b=>
  have y:=V7 k h f;rw[h]at g;rw[y]
  cases b with
  |true=>
   refine Oq _ (Jm g) (Oper.wp_mono ?_ (Lm k (λd e=>f o d j e) g z));rintro C w' ⟨v,H',p,m⟩;exact r _ _ _ m p
  |false=>
   refine⟨λ_ _=>trivial,?_⟩;refine r _ _ _ ⟨X,?_⟩ g;have:=k.step (Goes.refl k.go.inv) (dst:=o.dst) (c:=undef) (v:=.tuple []) (.tuple #[] [] rfl (λi B A=>by simp at A)) (λd e=>f o d j e);rw[k.hw]at this;exact this
theorem Zjx{n:Nat}(h:LastP ops n){K:AS->Prop}{R:Exit->Act->World->Prop}(u:∀ ch a w,Pan E ch a w->R (.panic ch) a w)(q:∀ s a w,Mb E s a w->K s->R .normal a w)(t:(ops.all (Wo E.n))=true):
  ∀ (r k fuel:Nat) (L:Array Bool) (s:AS) (a:Act) (w:World),n<k->k+r=ops.size->r<=fuel->L.size=ops.size->Upto ops k L->Mb E s a w->Yt P E ops K (ops.toList.drop k) s->wpAnyIn E.rk.F 0 P .any ops R fuel L a w
 |0,k,fuel,L,s,a,w,hk,hsz,_,_,hu,hs,ha=>by
  have j:Region.ready .any ops L=[]:=by
   rw[List.eq_nil_iff_forall_not_mem];intro i c;have:=h.ready_upto (Nat.le_of_lt hk) hu c;obtain⟨_,o,d,_⟩:=mem_ready.1 c;have:=(Array.getElem?_eq_some_iff.1 d).1;omega
  have v:K s:=by
   rw[List.drop_eq_nil_of_le (by rw[Array.length_toList];omega)]at ha;exact ha
  cases fuel with
  |zero=>exact⟨j,q _ _ _ hs v⟩
  |succ f=>exact⟨λ_=>q _ _ _ hs v,λi c=>by rw[j]at c;cases c⟩
 |r+1,k,fuel,L,s,a,w,hk,hsz,hf,hL,hu,hs,ha=>by
  obtain⟨f,rfl⟩:∃ f,fuel=f+1:=⟨fuel-1,zo⟩;have b:k<ops.size:=zo;have d:=Array.getElem?_eq_getElem b;have g:k∈Region.ready .any ops L:=mem_ready.2 ⟨hu.2 k (Nat.le_refl _) b,_,d,λe y z=>hu.1 _ (h.back _ _ d e y z)⟩;refine⟨λj=>(by rw[j]at g;cases g),λi c=>?_⟩;obtain rfl:=h.ready_upto (Nat.le_of_lt hk) hu c
  have m:ops.toList.drop i=ops[i]::ops.toList.drop (i+1):=by
   rw[List.drop_eq_getElem_cons (by rw[Array.length_toList];exact b),Array.getElem_toList]
  rw[m]at ha;exact Zs6 u t d hs ha λx A w' l p=>Zjx h u q t r (i+1) f _ x A w' zo zo zo (by rw[Array.size_setIfInBounds];exact hL) (hu.set (by rw[hL];exact b)) l p
theorem Zqaa{n:Nat}(h:LastP ops n)(hG:Y6 E.G){T:Told}{Y:AS->Prop}{R:Exit->Act->World->Prop}(hP:∀ ch a w,Pan E ch a w->R (.panic ch) a w)(hd:(ops.all (Wo E.n))=true)
  (hQ:∀ fuel L s a w,ops.size-n<=fuel->L.size=ops.size->Upto ops n L->Mb E s a w->Y s->wpAnyIn E.rk.F 0 P .any ops R fuel L a w):
  ∀ (fuel m:Nat) (L1 L:Array Bool) (s:AS) (a:Act) (w:World),L.size=ops.size->L1.size=n->Closed ops L->(∀ i,i<n->L[i]?=L1[i]?)->(∀ i,n<=i->i<ops.size->L.getD i true=false)->ops.size-n<=m->Mb E s a w ->
   Qb P E kp (ops.toList.take n).toArray T Y fuel L1 s->wpAnyIn E.rk.F 0 P .any ops R (fuel+m) L a w:=by
 have z:∀ i,i<n->(ops.toList.take n).toArray[i]?=ops[i]? := λi l=>by rw[List.getElem?_toArray,List.getElem?_take,if_pos l,Array.getElem?_toList]
 have y:∀ (L1 L:Array Bool),L.size=ops.size->(∀ i,i<n->L[i]?=L1[i]?)->Region.ready .any (ops.toList.take n).toArray L1=[]->∀ i,i<n->L.getD i false=true:=by
  intro L1 L D u p i
  induction i using Nat.strongRecOn with
  |_ i ih=>
   intro l
   have S:i<L.size:=by have:=h.lt;omega
   cases hb:L.getD i false with
   |true=>rfl
   |false=>
    exfalso
    have r:=Array.getElem?_eq_getElem (xs:=ops) (i:=i) zo
    have:i∈Region.ready .any (ops.toList.take n).toArray L1:=mem_ready.2 ⟨by
     rw[Array.getD_eq_getD_getElem?,<- u i l,Array.getElem?_eq_getElem S];rw[Array.getD_eq_getD_getElem?,Array.getElem?_eq_getElem S]at hb
     exact hb,_,(z i l).trans r,λe he' hb'=>by
     have A:=h.back _ _ r e he' hb';have:=ih e.on A zo;rw[Array.getD_eq_getD_getElem?]at this⊢
     rw[<- u _ zo];exact this⟩
    rw[p]at this;cases this
 intro fuel
 induction fuel with
 |zero=>
  intro m L1 L s a w D U hc u N hm W Q;rw[Nat.zero_add];exact hQ m L s a w hm D ⟨y L1 L D u Q.1,N⟩ W Q.2
 |succ f ihf=>
  intro m L1 L s a w D U hc u N hm W Q
  by_cases p:Region.ready .any (ops.toList.take n).toArray L1=[]
  exact hQ _ L s a w zo D ⟨y L1 L D u p,N⟩ W (Q.1 p)
  .have to1:∀ i,i<n->(i∈Region.ready .any ops L↔i∈Region.ready .any (ops.toList.take n).toArray L1):=λi l=>by
    rw[mem_ready,mem_ready,z i l,Array.getD_eq_getD_getElem?,Array.getD_eq_getD_getElem?,u i l];refine and_congr Iff.rfl (exists_congr λo=>⟨λq=>⟨q.1,λe c d=>?_⟩,λq=>⟨q.1,λe c d=>?_⟩⟩);have I:=q.2 e c d;have A:=h.back _ _ q.1 e c d;rw[Array.getD_eq_getD_getElem?]at I⊢;rw[<- u _ zo];exact I;have I:=q.2 e c d;have A:=h.back _ _ q.1 e c d;rw[Array.getD_eq_getD_getElem?]at I⊢;rw[u _ zo];exact I
   obtain⟨V,O⟩:=List.exists_mem_of_ne_nil _ p
   have x:V<n:=by
    obtain⟨_,o,r,_⟩:=mem_ready.1 O;have:=(Array.getElem?_eq_some_iff.1 r).1;simp at this;omega
   have t:=(to1 V x).2 O;rw[show f+1+m=(f+m)+1 by omega];refine⟨λh0=>(by rw[h0]at t;cases t),λi l=>?_⟩
   have J:∀ (j:Nat) (L:Array Bool),L.getD j true=false->L.getD j false=true->False:=λj L c d=>by
    simp only[Array.getD_eq_getD_getElem?]at c d
    cases X:L[j]? with
    |none=>rw[X]at c;simp at c
    |some b=>rw[X]at c d;simp at c d;rw[c]at d;cases d
   have B:i<n:=by
    rcases Nat.lt_trichotomy i n with q|q|q
    exact q;subst q;exact(J V L (mem_ready.1 t).1 (h.all hc l _ V rfl x)).elim
    exfalso
    obtain⟨_,o,r,C⟩:=mem_ready.1 l;have M:=(Array.getElem?_eq_some_iff.1 r).1;obtain⟨e,c,d,I⟩:=h.suf i o q r;have h4:=C e c d;rw[I]at h4;exact J (i-1) L (N (i-1) zo zo) h4
   obtain⟨_,o,r,_⟩:=mem_ready.1 l;have k:=Ze5 (λg b X=>h.gd i o g b B r X) (Q.2 i ((to1 i B).1 l) o ((z i B).trans r))
   have K:match Z8 ops s.τ o with
    |some true=>Yy P E s o λv H'=>Qb P E kp (ops.toList.take n).toArray T Y f (L1.setIfInBounds i true) (AS.put { s with H:=H' } o.dst v)
    |some false=>Qb P E kp (ops.toList.take n).toArray T Y f (L1.setIfInBounds i true) (s.put o.dst (.tuple []))
    |none=>False:=by
    unfold Qe at k
    cases hw:Z8 ops s.τ o with
    |none=>rw[hw]at k;exact k.elim
    |some b=>
     rw[hw]at k
     cases b with
     |false=>exact k
     |true=>exact Ku hG k
   refine Zs6 hP hd r W K λs' a' w' M ha'=>ihf m _ _ s' a' w' (by rw[Array.size_setIfInBounds];exact D) (by rw[Array.size_setIfInBounds];exact U) (hc.set l) (λj hj=>?_) (λj c d=>?_) hm M ha';rw[Array.getElem?_setIfInBounds,Array.getElem?_setIfInBounds,u j hj]
   have c:i<L.size:=by have:=h.lt;omega
   have d:i<L1.size:=zo
   split<;>simp[c,d]
   rw[getD_set_ne true zo];exact N j c d
theorem Fw{id:Nat}{Q:Exit->AS->Prop}{s:AS}(n:Nat)(T:Told)(U:P.follows .mixedOrders=true)(hG:Y6 E.G)(M:(ops.all (Wo E.n))=true)(hl:Zwj ops n=true)(hn:Nat.blt n ops.size=true)
  (m:∀ hlen:(ops.toList.take n).length=n,Qb P E kp (ops.toList.take n).toArray T (λs1=>∃ o,ops[n]?=some o/\HandX P E ops (Post E Q) o s1 λs2=>Yt P E ops (Q .normal) (ops.toList.drop (n+1)) s2) n (Array.replicate n false) s):AW P E (.region id ops true) Q s:=by
 have u:=LastP.of hl hn;intro a w hs;refine wpIn_region_any U ?_
 have S:Mb E s a { w with drawn:=w.drawn+1 }:=by
  obtain⟨X,b⟩:=hs;have K:=Goes.drew b.go.inv (w.drawn+1);refine⟨{ X with w:={ X.w with drawn:=w.drawn+1 } },by rw[b.hw],b.on_ K,b.df.go b.go.inv K,b.sz,λt=>(b.tm t).mono K.le,λg=>(b.gl g).go b.go.inv K⟩
 have hlen:(ops.toList.take n).length=n:=by rw[List.length_take,Array.length_toList];have:=u.lt;omega
 have q:∀ (o2:Array Oper) (k:Nat),Closed o2 (Array.replicate k false):=by
  intro o2 k2 k o _ A;simp only[Array.getD_eq_getD_getElem?,Array.getElem?_replicate]at A
  split at A<;>simp at A
 have m:=m hlen
 have r:=Zqaa (P:=P) (R:=Post E Q) u hG (T:=T) (kp:=kp) (λch a w h=>.inr ⟨ch,rfl,h⟩) M (λx L s1 a1 w1 hf Y J O hq=>?_) n (ops.size-n) (Array.replicate n false) (Array.replicate ops.size false) s a _ zS zS (q _ _)
  (λi W=>by have:=u.lt;rw[Array.getElem?_replicate,Array.getElem?_replicate,if_pos zo,if_pos W]) (λi h1 p=>by simp[p]) (Nat.le_refl _) S m
 have:=u.lt;rw[show n+(ops.size-n)=ops.size by omega]at r;exact r
 .have z:=u.lt
  obtain⟨f,rfl⟩:∃ f,x=f+1:=⟨x-1,zo⟩;obtain⟨o,C,B⟩:=hq;have D:n∈Region.ready .any ops L:=mem_ready.2 ⟨J.2 n (Nat.le_refl _) z,_,C,λe he hb=>J.1 _ (u.back _ _ C e he hb)⟩;refine⟨λhr=>(by rw[hr]at D;cases D),λi W=>?_⟩;obtain rfl:=u.ready_upto (Nat.le_refl _) J W
  have next:∀ s2 N H,Mb E s2 N H->Yt P E ops (Q .normal) (ops.toList.drop (i+1)) s2->wpAnyIn E.rk.F 0 P .any ops (Post E Q) f (L.setIfInBounds i true) N H:=λs2 N H p A=>
   Zjx u (λch a w h=>.inr ⟨ch,rfl,h⟩) (λs a w h1 p=>.inl ⟨s,h1,p⟩) M (ops.size-(i+1)) (i+1) f _ s2 N H (Nat.lt_succ_self _) zo zo (by rw[Array.size_setIfInBounds];exact Y) (J.set zo) p A
  obtain⟨X,b⟩:=O;have hw:=b.hw;subst hw
  have j:∀ (I:Oper) d,I∈ops->I.dst=some d->d<E.n:=by
   intro I d U l;rw[Array.all_eq_true']at M;have:=M I U;unfold Wo at this;rw[l]at this;simpa using this
  have V:o∈ops:=by rw[Array.getElem?_eq_some_iff]at C;obtain⟨z,rfl⟩:=C;exact Array.getElem_mem z
  unfold wpOpIn;simp only[C]
  rcases B with ⟨y,B⟩|⟨y,B⟩
  .rw[V7 b y j]
   simp only[if_true];refine Oper.wpIn_mono ?_ (B X a1 b);rintro a' w' ⟨s2,p,A⟩;exact next _ _ _ p A
  rw[V7 b y j];simp only[Bool.false_eq_true,if_false];refine⟨λ_ _=>trivial,next _ _ _ ⟨X,?_⟩ B⟩;exact b.step (Goes.refl b.go.inv) (dst:=o.dst) (c:=undef) (v:=.tuple []) (.tuple #[] [] rfl (λi h1 p=>by simp at p)) (λd l=>j o d V l)
theorem Fv{id:Nat}{Q:Exit->AS->Prop}{s:AS}(n:Nat)(T:Told)(f:P.follows .mixedOrders=true)(p:Y6 E.G)(l:(ops.all (Wo E.n))=true)(g:Zwj ops n=true)(e:Nat.blt n ops.size=true)
  (a:Kt (ops.toList.take n).toArray T.bor 0 (ops.toList.take n)=true)
  (h:Xg P E [] (ops.toList.take n).toArray (λs1=>∃ o,ops[n]?=some o/\HandX P E ops (Post E Q) o s1 λs2=>Yt P E ops (Q .normal) (ops.toList.drop (n+1)) s2) T 0 (ops.toList.take n) s):AW P E (.region id ops true) Q s:=by
 refine Fw (kp:=[]) n T f p l g e λb=>?_
 have d:(ops.toList.take n).toArray.size=n:=by grind
 have m:Closed (ops.toList.take n).toArray (Array.replicate n false):=by
  intro k o _ i;simp only[Array.getD_eq_getD_getElem?,Array.getElem?_replicate]at i
  grind
 have q:=Hw (P:=P) (E:=E) (kp:=[]) (ops:=(ops.toList.take n).toArray) (ops.toList.take n) 0 s (λj=>by grind) h;have c:=N4 (P:=P) (E:=E) (kp:=[]) (T:=T) (ops:=(ops.toList.take n).toArray) (Q:=_) (ops.toList.take n) 0 (Array.replicate n false) s (λk=>zS) ⟨by grind,λj r=>by simp_all⟩ m a q
 grind
theorem Zcq{id:Nat}{Q:Exit->AS->Prop}{s:AS}(n:Nat)(ord:List Nat)(kp:Kps)(T:Told)(i:P.follows .mixedOrders=true)(t:Y6 E.G)(q:(ops.all (Wo E.n))=true)(m:Zwj ops n=true)(g:Nat.blt n ops.size=true)
  (a:Jx (ops.toList.take n).toArray T.bor [] ord=true) (e:(List.range n).all (λj=>ord.any (Nat.beq j))=true) (l:Nat.beq ord.length n=true)
  (h:Jy P E kp (ops.toList.take n).toArray (λs1=>∃ o,ops[n]?=some o/\HandX P E ops (Post E Q) o s1 λs2=>Yt P E ops (Q .normal) (ops.toList.drop (n+1)) s2) T ord s):AW P E (.region id ops true) Q s:=by
 refine Fw (kp:=kp) n T i t q m g λb=>?_
 have f:(ops.toList.take n).toArray.size=n:=by simp_all
 have r:Closed (ops.toList.take n).toArray (Array.replicate n false):=by
  intro k o _ c;simp only[Array.getD_eq_getD_getElem?,Array.getElem?_replicate]at c
  grind
 have d:=Qa (P:=P) (E:=E) (kp:=kp) (T:=T) (ops:=(ops.toList.take n).toArray) (Q:=_) ord [] (Array.replicate n false) s (λk c=>by grind) (λj p=>.inr (by
  simp_all)) ⟨by simp_all,λj p=>by grind⟩ r a (Oj ord s h)
 simp_all
end
end Go.Hs
