/- A part. No condition. -/
import Derived.Test.YtoahejkahaimnaaGreatDoorP44
import Derived.Test.YtoahejkahaimnaaGreatDoorP27
set_option linter.all false
namespace Go.Hs
section
variable{P:Program}{E:Ent}{ops:Array Oper}{kp:Kps}
inductive Dep(ops:Array Oper)(i:Nat):Nat->Prop
 |on {j:Nat} {oj:Oper} {e:Edge}:ops[j]?=some oj->e∈oj.after->Region.binds .any e=true->e.on=i->Dep ops i j
 |via {j:Nat} {oj:Oper} {e:Edge}:ops[j]?=some oj->e∈oj.after->Region.binds .any e=true->Dep ops i e.on->Dep ops i j
theorem C2{a:Array Bool}(h:Closed ops a){i:Nat}(hi:a.getD i false=false){j:Nat}(k:Dep ops i j):
  (∀ o,ops[j]?=some o->∀ e∈o.after,Region.binds .any e=true->a.getD e.on false=true)->False:=by
 induction k with
 |on hoj he hb hon=>
  grind
 |via hoj he hb _ ih=>
  intro b;have g:=b _ hoj _ he hb;exact ih λo f l c d=>h _ o f g l c d
theorem Zbi{T:Told}{Q:AS->Prop}{i:Nat}{m:Oper}(p:ops[i]?=some m)(F:Z9 (T.bor i) m ≠ .W){D:Nat->Bool}(K:∀ j,D j=true->Dep ops i j):
  ∀ (n:Nat) (listed:Array Bool) (s:AS),Closed ops listed->i∈Region.ready .any ops listed->Zr3 ops T.bor D i m listed ->
   Rb P E kp ops (T.bor i) (T.vs i) m (Re P E kp ops T Q n (listed.setIfInBounds i true)) s->Re P E kp ops T Q (n+1) listed s:=by
 intro n
 have q:∀ (listed:Array Bool),i∈Region.ready .any ops listed->listed.getD i false=false:=by
  intro listed c;have R:=(mem_ready.1 c).1
  grind
 have v:∀ (listed:Array Bool),Closed ops listed->i∈Region.ready .any ops listed->∀ j,j∈Region.ready .any ops listed->D j=false:=by
  intro listed w c j d;obtain⟨_,l,a,J⟩:=mem_ready.1 d
  cases H:D j with
  |false=>rfl
  |true=>exact(C2 w (q listed c) (K j H) (λo M e N O=>by grind)).elim
 induction n with
 |zero=>
  intro listed s w c C h;refine⟨λy=>(by rw[y]at c;cases c),λj d l a=>?_⟩
  by_cases b:j=i
  subst b;rw[p]at a;cases a;exact h;obtain⟨x,I,_⟩:=Zxz F h;have:=ready_mono (md:=.any) d b;rw[I]at this;cases this
 |succ n ih=>
  intro listed s w c C h;refine⟨λy=>(by rw[y]at c;cases c),λj d l a=>?_⟩
  by_cases b:j=i
  subst b;rw[p]at a;cases a;exact h;have u:listed.getD j true=false:=(mem_ready.1 d).1;obtain⟨g,G⟩:=C j l a b u (v listed w c j d)
  have I:Rb P E kp ops (T.bor i) (T.vs i) m (Rb P E kp ops (T.bor j) (T.vs j) l (Re P E kp ops T Q n ((listed.setIfInBounds i true).setIfInBounds j true))) s:=
   W4 (λx f=>f.2 j (ready_mono d b) l a) h
  have L:=Zef G g I;refine W4 (λx f=>?_) L;refine ih (listed.setIfInBounds j true) x (w.set d) (ready_mono c (Ne.symm b)) ?_ ?_;intro k ok z A r B;refine C k ok z A ?_ B
  by_cases t:k=j
  subst t;exact u;rw[getD_set_ne true (Ne.symm t)]at r;exact r;rw[Array.setIfInBounds_comm _ _ b];exact f
def Q9(ops:Array Oper)(bor:Nat->Md)(c:Cls)(i:Nat)(o:Oper):List Nat->List Nat->Bool
 |_,[]=>true
 |D,j::rest=>match ops[j]? with
  |none=>false
  |some oj=>cond (oj.after.toList.any λe=>Region.binds .any e&&(Nat.beq e.on i||D.any (Nat.beq e.on))) (Q9 ops bor c i o (j::D) rest)
   (Qa c (Z9 (bor j) oj)&&(o.apart ops oj&&Q9 ops bor c i o D rest))
def Zfg(ops:Array Oper)(bor:Nat->Md):List Nat->List Nat->Bool
 |_,[]=>true
 |done,i::rest=>match ops[i]? with
  |none=>false
  |some o=>(o.after.toList.all λe => !Region.binds .any e||done.any (Nat.beq e.on))&&(!done.any (Nat.beq i) &&
   ((match Z9 (bor i) o with
    |.W=>rest.all λj=>match ops[j]? with|none=>false|some oj=>oj.after.toList.any λe=>Region.binds .any e && !done.any (Nat.beq e.on)
    |c=>Q9 ops bor c i o [] rest)&&Zfg ops bor (i::done) rest))
theorem Mv{l:List Nat}{n:Nat}:l.any (Nat.beq n)=true↔n∈l:=by
 simp
theorem P8{bor:Nat->Md}{c:Cls}{i:Nat}{o:Oper}:∀ (rest D:List Nat),(∀ k∈D,Dep ops i k)->Q9 ops bor c i o D rest=true ->
  ∃ D':Nat->Bool,(∀ k,D' k=true->Dep ops i k)/\(∀ k∈D,D' k=true)/\∀ j∈rest,D' j=false->∀ oj,ops[j]?=some oj->Qa c (Z9 (bor j) oj)=true/\o.apart ops oj=true
 |[],D,hD,_=>⟨λk=>D.any (Nat.beq k),λk b=>hD k (Mv.1 b),λk b=>Mv.2 b,λj u=>by grind⟩
 |j::rest,D,hD,h=>by
  rw[Q9]at h
  cases d:ops[j]? with
  |none=>grind
  |some oj=>
   rw[d]at h;simp only at h
   cases a:(oj.after.toList.any λe=>Region.binds .any e&&(Nat.beq e.on i||D.any (Nat.beq e.on)))with
   |true=>
    rw[a]at h
    have t:Dep ops i j:=by
     rw[List.any_eq_true]at a;obtain⟨e,v,m⟩:=a;simp only[Bool.and_eq_true,Bool.or_eq_true]at m
     rcases m.2 with n|n
     exact .on d (by grind) m.1 (Nat.eq_of_beq_eq_true n);exact .via d (by grind) m.1 (hD _ (Mv.1 n))
    obtain⟨D',r,q,s⟩:=P8 rest (j::D) (λk b=>by
     grind) h
    refine⟨D',r,λk b=>q k (List.mem_cons_of_mem _ b),λk b l=>?_⟩
    rcases List.mem_cons.1 b with rfl|b
    grind
    grind
   |false=>
    rw[a,cond_false]at h;simp only[Bool.and_eq_true]at h;obtain⟨g,p,h⟩:=h;obtain⟨D',r,q,s⟩:=P8 rest D hD h;refine⟨D',r,q,λk b l ok f=>?_⟩
    rcases List.mem_cons.1 b with rfl|b
    rw[d]at f;cases f;exact⟨g,p⟩;exact s k b l ok f
def ListedL(ops:Array Oper)(done:List Nat)(listed:Array Bool):Prop:=listed.size=ops.size/\∀ j,j<ops.size->(listed[j]?=some true↔j∈done)/\(listed[j]?=some false↔j∉done)
theorem ListedL.getD{done:List Nat}{a:Array Bool}(h:ListedL ops done a){j:Nat}(c:j<ops.size)(b:Bool):(a.getD j b=true↔j∈done):=by
 obtain⟨e,d⟩:=h.2 j c;rw[Array.getD_eq_getD_getElem?]
 grind
theorem ListedL.next{done:List Nat}{i:Nat}{a:Array Bool}(h:ListedL ops done a)(hi:i<ops.size):ListedL ops (i::done) (a.setIfInBounds i true):=by
 refine⟨by rw[Array.size_setIfInBounds];exact h.1,λj b=>?_⟩;rw[Array.getElem?_setIfInBounds];obtain⟨d,c⟩:=h.2 j b
 grind
theorem N1{T:Told}{Q:AS->Prop}:∀ (rest done:List Nat) (listed:Array Bool) (s:AS),(∀ k∈done,k<ops.size)->(∀ j,j<ops.size->j∈done\/j∈rest)->ListedL ops done listed->Closed ops listed->Zfg ops T.bor done rest=true ->
  R1 P E kp ops T Q rest s->Re P E kp ops T Q rest.length listed s
 |[],done,listed,s,_,hall,hL,_,_,h=>by
  refine⟨?_,h⟩;rw[List.eq_nil_iff_forall_not_mem];intro j z;obtain⟨O,o,M,_⟩:=mem_ready.1 z
  have l:j<ops.size:=by rw[Array.getElem?_eq_some_iff]at M;exact M.1
  have H:j∈done:=by
   rcases hall j l with q|q
   exact q;cases q
  have:=(hL.getD l true).2 H;rw[this]at O;cases O
 |i::rest,done,listed,s,hdone,hall,hL,hc,hok,h=>by
  rw[Zfg]at hok
  cases b:ops[i]? with
  |none=>rw[b]at hok;cases hok
  |some o=>
  rw[b]at hok;simp only[Bool.and_eq_true]at hok;obtain⟨B,n,m,v⟩:=hok
  have w:i<ops.size:=by rw[Array.getElem?_eq_some_iff]at b;exact b.1
  have n:i∉done:=by
   intro G;rw[Mv.2 G]at n;cases n
  simp only[R1,b]at h
  have C:i∈Region.ready .any ops listed:=by
   refine mem_ready.2 ⟨?_,o,b,λe I J=>?_⟩
   .cases G:listed.getD i true with
    |false=>rfl
    |true=>exact absurd ((hL.getD w true).1 G) n
   rw[List.all_eq_true]at B;have:=B e (zu I);rw[J]at this;simp only[Bool.not_true,Bool.false_or]at this;have N:=Mv.1 this
   by_cases p:e.on<ops.size
   exact(hL.getD p false).2 N;exact absurd (hdone _ N) p
  have U:∀ A,R1 P E kp ops T Q rest A->Re P E kp ops T Q rest.length (listed.setIfInBounds i true) A:=λA F=>N1 rest (i::done) _ A (λk y=>by
   rcases List.mem_cons.1 y with rfl|y
   exact w
   exact hdone k y) (λj z=>by
   rcases hall j z with q|q
   exact .inl (List.mem_cons_of_mem _ q)
   rcases List.mem_cons.1 q with rfl|q
   exact .inl (List.mem_cons_self ..)
   exact .inr q) (hL.next w) (hc.set C) v F
  have R:=W4 U h
  have c:∀ j u,ops[j]?=some u->j≠i->listed.getD j true=false->j∈rest:=by
   intro j u a f d
   have l:j<ops.size:=by rw[Array.getElem?_eq_some_iff]at a;exact a.1
   rcases hall j l with q|q
   rw[(hL.getD l true).2 q]at d;cases d;exact(List.mem_cons.1 q).resolve_left f
  by_cases K:Z9 (T.bor i) o=.W
  rw[K]at m;simp only at m;refine⟨λB=>(by rw[B]at C;cases C),λj z u a=>?_⟩
  by_cases f:j=i
  subst f;rw[b]at a;cases a;exact R
  exfalso
  obtain⟨d,S,r,x⟩:=mem_ready.1 z;rw[a]at r;cases r;rw[List.all_eq_true]at m;have:=m j (c j u a f d);rw[a]at this;simp only[List.any_eq_true,Bool.and_eq_true]at this;obtain⟨e,I,J,t⟩:=this;have g:=x e (zu I) J
  by_cases p:e.on<ops.size
  have:=Mv.2 ((hL.getD p false).1 g);rw[this]at t;cases t;rw[Array.getD_eq_getD_getElem?,Array.getElem?_eq_none (by rw[hL.1];omega)]at g;simp at g
  have V:Q9 ops T.bor (Z9 (T.bor i) o) i o [] rest=true:=by
   revert m K
   cases Z9 (T.bor i) o<;>first|exact λh _=>h|(intro _ h;exact absurd rfl h)
  obtain⟨D,Y,_,X⟩:=P8 rest [] (λk y=>by cases y) V;exact Zbi b K Y rest.length listed s hc C (λj u a f d L=>X j (c j u a f d) L u a) R
theorem Zy0{ops:Array Oper}{Q:AS->Prop}{T:Told}(o:Oper)(k:Nat)(s:AS)(h:Yy P E kp ops Q T k [o] s):Rb P E kp ops (T.bor k) (T.vs k) o Q s:=by
 have N:∀ s',Yy P E kp ops Q T (k+1) [] s'->Q s':=λ_ h=>h;unfold Rb;simp only[Yy]at h
 cases L:Zz ops s.τ o with
 |none=>rw[L]at h;exact h.elim
 |some b=>
  rw[L]at h
  cases b with
  |false=>exact h
  |true=>
   simp only[Qt]at h⊢
   split at h
   .rename_i f B I hop
    obtain⟨w,J,z,pos,after,q⟩:=o;simp only at hop;subst hop
    cases p:T.bor k with
    |any=>
     rw[p,Zwa]at h;have C:=Y3 (K':=λu n=>KpH P kp n/\Q (AS.put { s with H:=n } w u)) (λv n i=>Mi.1 i) h;unfold Xg;exact C
    |keep=>
     rw[p,E0]at h;have C:=Y3 (K':=λu n=>KpH P kp n/\Q (AS.put { s with H:=n } w u)) (λv n i=>Mi.1 i) h;unfold Xg;exact C
    |lend=>
     rw[p]at h;obtain⟨g,A⟩:=h;unfold O1 at g;unfold Xg
     split at g
     rename_i F first G D;simp only[Z9,D];exact⟨g,A⟩;exact g.elim
    |pure=>
     rw[p]at h;obtain⟨g,A⟩:=h;unfold O1 at g;unfold Xg
     split at g
     rename_i F first G D;simp only[Z9,D];exact⟨g,A⟩;exact g.elim
    |own=>
     rw[p]at h;obtain⟨g,A⟩:=h;unfold O1 at g;unfold Xg
     split at g
     rename_i F first G D;simp only[Z9,D];exact⟨g,A⟩;exact g.elim
   .rename_i t x hop
    obtain⟨w,J,z,pos,after,q⟩:=o;simp only at hop;subst hop
    cases p:T.bor k with
    |lend=>
     rw[p,E5,M3]at h;unfold Xg;simp only[Z9,M6]
     cases M:Vb P t (s.ev E x)with
     |none=>rw[M]at h;exact h.elim
     |some u=>rw[M]at h;exact h
    |keep=>
     rw[p,E6]at h;unfold Xg;simp only[Z9,M6];exact h
    |pure=>
     rw[p,E4]at h;unfold Xg;exact h
    |own=>
     rw[p,Z0a]at h;unfold Xg;exact h
    |any=>
     rw[p,Z1a]at h;unfold Xg;exact h
   .rename_i hne hnl
    obtain⟨g,A⟩:=h
    have e:Py o=true->Yk P E s o λv n=>Q (AS.put { s with H:=n } o.dst v):=λK=>
     Y3 (λv n i=>(by rw[K]at i;exact i)) A
    have j:Py o=false->Yk P E s o λv n=>KpH P kp n/\Q (AS.put { s with H:=n } o.dst v):=λK=>
     Y3 (λv n i=>(by rw[K]at i;exact Mi.1 i)) A
    obtain⟨w,J,z,pos,after,q⟩:=o;unfold Xg
    cases J<;>try(first|exact e rfl|exact j rfl|exact absurd rfl (hnl _ _))
    case makeMap t r=>
     cases r with
     |some r=>exact j rfl
     |none=>
      obtain⟨d,l,a⟩:=g rfl;simp only at l;subst l;exact⟨a,e rfl⟩
    obtain⟨d,l,a⟩:=g rfl;simp only at l;subst l;exact⟨a,e rfl⟩;obtain⟨d,l,a⟩:=g rfl;simp only at l;subst l;exact⟨a,e rfl⟩;obtain⟨d,l,a⟩:=g rfl;simp only at l;subst l;exact⟨a,e rfl⟩;obtain⟨d,l,a⟩:=g rfl;simp only at l;subst l;exact⟨a,e rfl⟩
    .rename_i c
     obtain⟨y,B,I⟩:=c
     cases y with
     |value f=>exact absurd rfl (hne f B I)
     |invoke r m=>exact j rfl
     |builtin b=>cases b<;>first|exact e rfl|exact j rfl
def Cu(P:Program)(E:Ent)(kp:Kps)(ops:Array Oper)(Q:AS->Prop)(T:Told):List Nat->AS->Prop
 |[],s=>Q s
 |i::rest,s=>match ops[i]? with
  |some o=>Yy P E kp ops (Cu P E kp ops Q T rest) T i [o] s
  |none=>False
theorem Il{Q:AS->Prop}{T:Told}:∀ (l:List Nat) (s:AS),Cu P E kp ops Q T l s->R1 P E kp ops T Q l s
 |[],s,h=>h
 |i::rest,s,h=>by
  rw[Cu]at h;rw[R1]
  cases c:ops[i]? with
  |none=>grind
  |some o=>
   rw[c]at h;exact W4 (λb a=>Il rest b a) (Zy0 o i s h)
@[go_sem] theorem opsO_nil{Q:AS->Prop}{T:Told}(s:AS):Cu P E kp ops Q T [] s=Q s:=rfl
def Z9s(o:Option Oper)(K:Oper->Prop):Prop:=match o with|some x=>K x|none=>False
@[go_sem] theorem optO'_some(x:Oper)(K:Oper->Prop):Z9s (some x) K=K x:=rfl
@[congr] theorem Zp6{o o':Option Oper}{K:Oper->Prop}(h:o=o'):Z9s o K=Z9s o' K:=by rw[h]
@[go_sem] theorem opsO_cons{Q:AS->Prop}{T:Told}(l:List Oper)(i:Nat)(rest:List Nat)(s:AS):Cu P E kp ⟨l⟩ Q T (i::rest) s=Z9s (l[i]?) λo=>Yy P E kp ⟨l⟩ (Cu P E kp ⟨l⟩ Q T rest) T i [o] s:=by
 rw[Cu];simp only[List.getElem?_toArray]
 cases l[i]? <;> rfl
end
section
variable{P:Program}{E:Ent}{ops:Array Oper}{kp:Kps}
def Zzg(ops:Array Oper)(n:Nat):Bool:=
 (List.range n).all (λk=>(List.range (n+1)).any λj=>Nat.blt k j&&(match ops[j]? with|some o=>o.after.toList.any λe=>Region.binds .any e&&Nat.beq e.on k|none=>false)) &&
 (List.range ops.size).all λj=>match ops[j]? with
  |some o=>(match o.guard with|some (g,_)=>Nat.ble n j||Nat.blt g n|none=>true)&&(o.after.toList.all λe => !Region.binds .any e||Nat.blt e.on j)&&(Nat.ble j n||o.after.toList.any λe=>Region.binds .any e&&Nat.beq e.on (j-1))
  |none=>true
structure LastP(ops:Array Oper)(n:Nat):Prop where
 lt:n<ops.size
 pre:∀ k,k<n->∃ j o,k<j/\j<=n/\ops[j]?=some o/\∃ e∈o.after,Region.binds .any e=true/\e.on=k
 back:∀ j o,ops[j]?=some o->∀ e∈o.after,Region.binds .any e=true->e.on<j
 gd:∀ j o g b,j<n->ops[j]?=some o->o.guard=some (g,b)->g<n
 suf:∀ j o,n<j->ops[j]?=some o->∃ e∈o.after,Region.binds .any e=true/\e.on=j-1
theorem LastP.of{n:Nat}(h:Zzg ops n=true)(r:Nat.blt n ops.size=true):LastP ops n:=by
 unfold Zzg at h;rw[Bool.and_eq_true]at h;obtain⟨q,p⟩:=h;rw[List.all_eq_true]at q p
 have d:∀ j o,ops[j]?=some o->((match o.guard with|some (g,_)=>Nat.ble n j||Nat.blt g n|none=>true)=true/\(o.after.toList.all λe => !Region.binds .any e||Nat.blt e.on j)=true)/\(Nat.ble j n||o.after.toList.any λe=>Region.binds .any e&&Nat.beq e.on (j-1))=true:=λj o a=>by
  have f:j<ops.size:=(Array.getElem?_eq_some_iff.1 a).1;have:=p j (List.mem_range.2 f);rw[a]at this;simpa only[Bool.and_eq_true]using this
 refine⟨by rwa [Nat.blt_eq]at r,λk s=>?_,λj o a e i u=>?_,λj o g b f a t=>?_,λj o f a=>?_⟩;have:=q k (List.mem_range.2 s);rw[List.any_eq_true]at this;obtain⟨j,f,m⟩:=this;rw[Bool.and_eq_true,Nat.blt_eq]at m;obtain⟨m,l⟩:=m
 split at l
 rename_i o a;rw[List.any_eq_true]at l;obtain⟨e,i,c⟩:=l;rw[Bool.and_eq_true,Nat.beq_eq]at c;exact⟨j,o,m,by have:=List.mem_range.1 f;omega,a,e,zu i,c.1,c.2⟩;cases l;have:=(d j o a).1.2;rw[List.all_eq_true]at this;have:=this e (zu i);rw[u,Bool.not_true,Bool.false_or,Nat.blt_eq]at this;exact this;have:=(d j o a).1.1;rw[t]at this;simp only[Bool.or_eq_true,Nat.ble_eq,Nat.blt_eq]at this;omega;have:=(d j o a).2;rw[Bool.or_eq_true]at this
 rcases this with this|this
 rw[Nat.ble_eq]at this;omega;rw[List.any_eq_true]at this;obtain⟨e,i,c⟩:=this;rw[Bool.and_eq_true,Nat.beq_eq]at c;exact⟨e,zu i,c.1,c.2⟩
def Upto(ops:Array Oper)(k:Nat)(L:Array Bool):Prop:=(∀ i,i<k->L.getD i false=true)/\∀ i,k<=i->i<ops.size->L.getD i true=false
theorem LastP.all{n:Nat}(h:LastP ops n){L:Array Bool}(i:Closed ops L)(hi:n∈Region.ready .any ops L):∀ d k,n-k=d->k<n->L.getD k false=true:=by
 obtain⟨_,on,b,a⟩:=mem_ready.1 hi;intro d
 induction d using Nat.strongRecOn with
 |_ d ih=>
  intro k p f;obtain⟨j,o,r,q,c,e,g,l,rfl⟩:=h.pre k f
  by_cases m:j=n
  grind
  have:=ih (n-j) zo j rfl zo;exact i j o c this e g l
theorem LastP.ready_upto{n k:Nat}(h:LastP ops n)(p:n<=k){L:Array Bool}(c:Upto ops k L){i:Nat}(hi:i∈Region.ready .any ops L):i=k:=by
 obtain⟨s,o,d,a⟩:=mem_ready.1 hi;have m:i<ops.size:=(Array.getElem?_eq_some_iff.1 d).1
 by_cases b:i<k
 have:=c.1 i b
 grind
 by_cases f:k<i
 obtain⟨e,j,l,g⟩:=h.suf i o zo d;have r:=a e j l;have q:=c.2 (i-1) zo zo
 grind
 omega
theorem Upto.set{k:Nat}{L:Array Bool}(h:Upto ops k L)(b:k<L.size):Upto ops (k+1) (L.setIfInBounds k true):=by
 refine⟨λi c=>?_,λi d a=>?_⟩
 by_cases e:i=k
 simp_all;rw[getD_set_ne false (Ne.symm e)];exact h.1 i zo;rw[getD_set_ne true zo];exact h.2 i zo a
theorem A4{n:Nat}{τ : Nat->V}{o:Oper}(a:∀ g b,o.guard=some (g,b)->g<n):Zz (ops.toList.take n).toArray τ o=Zz ops τ o:=by
 unfold Zz
 grind
theorem Zwz{n:Nat}{bor:Md}{v:V}{o:Oper}{K:AS->Prop}{s:AS}(a:∀ g b,o.guard=some (g,b)->g<n)(h:Rb P E kp (ops.toList.take n).toArray bor v o K s):Rb P E kp ops bor v o K s:=by
 unfold Rb at *;rw[A4 a]at h;exact h
theorem Z40{R:Exit->Act->World->Prop}(y:∀ ch a w,Pan E ch a w->R (.panic ch) a w)(hd:(ops.all (Xz E.n))=true){i:Nat}{o:Oper}(t:ops[i]?=some o){s:AS}{a:Act}{w:World}(r:Qx E s a w){N:AS->Prop}{K:Act->World->Prop}
  (g:match Zz ops s.τ o with
   |some true=>Yk P E s o λv H'=>N (AS.put { s with H:=H' } o.dst v)
   |some false=>N (s.put o.dst (.tuple []))
   |none=>False) (q:∀ s a w,Qx E s a w->N s->K a w):wpOpIn E.rk.F 0 P ops R i K a w:=by
 obtain⟨X,k⟩:=r
 have f:∀ (l:Oper) d,l∈ops->l.dst=some d->d<E.n:=by
  intro l d u e;rw[Array.all_eq_true']at hd;have:=hd l u;unfold Xz at this
  grind
 have j:o∈ops:=by grind
 unfold wpOpIn;simp only[t]
 cases h:Zz ops s.τ o with
 |none=>grind
 |some b=>
  have x:=Vn k h f;rw[h]at g;rw[x]
  cases b with
  |true=>
   refine R3 _ (Kj g) (Oper.wp_mono ?_ (N8 k (λd e=>f o d j e) g y));rintro B w' ⟨v,H',p,m⟩;exact q _ _ _ m p
  |false=>
   refine⟨λ_ _=>trivial,?_⟩;refine q _ _ _ ⟨X,?_⟩ g;have:=k.step (Goes.refl k.go.inv) (dst:=o.dst) (c:=undef) (v:=.tuple []) (.tuple #[] [] rfl (λi A z=>by simp at z)) (λd e=>f o d j e);rw[k.hw]at this;exact this
theorem Zws{n:Nat}(h:LastP ops n){K:AS->Prop}{R:Exit->Act->World->Prop}(t:∀ ch a w,Pan E ch a w->R (.panic ch) a w)(q:∀ s a w,Qx E s a w->K s->R .normal a w)(hd:(ops.all (Xz E.n))=true):
  ∀ (r k fuel:Nat) (L:Array Bool) (s:AS) (a:Act) (w:World),n<k->k+r=ops.size->r<=fuel->L.size=ops.size->Upto ops k L->Qx E s a w->Yi P E ops K (ops.toList.drop k) s->wpAnyIn E.rk.F 0 P .any ops R fuel L a w
 |0,k,fuel,L,s,a,w,hk,hsz,_,_,hu,hs,ha=>by
  have j:Region.ready .any ops L=[]:=by
   rw[List.eq_nil_iff_forall_not_mem];intro i c;have:=h.ready_upto (Nat.le_of_lt hk) hu c;obtain⟨_,o,d,_⟩:=mem_ready.1 c;have:=(Array.getElem?_eq_some_iff.1 d).1;omega
  have u:K s:=by
   rw[List.drop_eq_nil_of_le (by rw[Array.length_toList];omega)]at ha;exact ha
  cases fuel with
  |zero=>exact⟨j,q _ _ _ hs u⟩
  |succ f=>exact⟨λ_=>q _ _ _ hs u,λi c=>by rw[j]at c;cases c⟩
 |r+1,k,fuel,L,s,a,w,hk,hsz,hf,hL,hu,hs,ha=>by
  obtain⟨f,rfl⟩:∃ f,fuel=f+1:=⟨fuel-1,zo⟩;have b:k<ops.size:=zo;have d:=Array.getElem?_eq_getElem b;have g:k∈Region.ready .any ops L:=mem_ready.2 ⟨hu.2 k (Nat.le_refl _) b,_,d,λe x y=>hu.1 _ (h.back _ _ d e x y)⟩;refine⟨λj=>(by rw[j]at g;cases g),λi c=>?_⟩;obtain rfl:=h.ready_upto (Nat.le_of_lt hk) hu c
  have m:ops.toList.drop i=ops[i]::ops.toList.drop (i+1):=by
   rw[List.drop_eq_getElem_cons (by rw[Array.length_toList];exact b),Array.getElem_toList]
  rw[m]at ha;exact Z40 t hd d hs ha λv z w' l p=>Zws h t q hd r (i+1) f _ v z w' zo zo zo (by rw[Array.size_setIfInBounds];exact hL) (hu.set (by rw[hL];exact b)) l p
theorem Z14{n:Nat}(h:LastP ops n)(hG:Y6 E.G){T:Told}{Y:AS->Prop}{R:Exit->Act->World->Prop}(hP:∀ ch a w,Pan E ch a w->R (.panic ch) a w)(hd:(ops.all (Xz E.n))=true)
  (hQ:∀ fuel L s a w,ops.size-n<=fuel->L.size=ops.size->Upto ops n L->Qx E s a w->Y s->wpAnyIn E.rk.F 0 P .any ops R fuel L a w):
  ∀ (fuel m:Nat) (L1 L:Array Bool) (s:AS) (a:Act) (w:World),L.size=ops.size->L1.size=n->Closed ops L->(∀ i,i<n->L[i]?=L1[i]?)->(∀ i,n<=i->i<ops.size->L.getD i true=false)->ops.size-n<=m->Qx E s a w ->
   Re P E kp (ops.toList.take n).toArray T Y fuel L1 s->wpAnyIn E.rk.F 0 P .any ops R (fuel+m) L a w:=by
 have z:∀ i,i<n->(ops.toList.take n).toArray[i]?=ops[i]? := λi l=>by rw[List.getElem?_toArray,List.getElem?_take,if_pos l,Array.getElem?_toList]
 have y:∀ (L1 L:Array Bool),L.size=ops.size->(∀ i,i<n->L[i]?=L1[i]?)->Region.ready .any (ops.toList.take n).toArray L1=[]->∀ i,i<n->L.getD i false=true:=by
  intro L1 L D u p i
  induction i using Nat.strongRecOn with
  |_ i ih=>
   intro l
   have S:i<L.size:=by have:=h.lt;omega
   cases hb:L.getD i false with
   |true=>rfl
   |false=>
    exfalso
    have r:=Array.getElem?_eq_getElem (xs:=ops) (i:=i) zo
    have:i∈Region.ready .any (ops.toList.take n).toArray L1:=mem_ready.2 ⟨by
     rw[Array.getD_eq_getD_getElem?,<- u i l,Array.getElem?_eq_getElem S];rw[Array.getD_eq_getD_getElem?,Array.getElem?_eq_getElem S]at hb
     exact hb,_,(z i l).trans r,λe he' hb'=>by
     have A:=h.back _ _ r e he' hb';have:=ih e.on A zo;rw[Array.getD_eq_getD_getElem?]at this⊢
     rw[<- u _ zo];exact this⟩
    rw[p]at this;cases this
 intro fuel
 induction fuel with
 |zero=>
  intro m L1 L s a w D U hc u N hm W Q;rw[Nat.zero_add];exact hQ m L s a w hm D ⟨y L1 L D u Q.1,N⟩ W Q.2
 |succ f ihf=>
  intro m L1 L s a w D U hc u N hm W Q
  by_cases p:Region.ready .any (ops.toList.take n).toArray L1=[]
  exact hQ _ L s a w zo D ⟨y L1 L D u p,N⟩ W (Q.1 p)
  .have to1:∀ i,i<n->(i∈Region.ready .any ops L↔i∈Region.ready .any (ops.toList.take n).toArray L1):=λi l=>by
    rw[mem_ready,mem_ready,z i l,Array.getD_eq_getD_getElem?,Array.getD_eq_getD_getElem?,u i l];refine and_congr Iff.rfl (exists_congr λo=>⟨λq=>⟨q.1,λe c d=>?_⟩,λq=>⟨q.1,λe c d=>?_⟩⟩);have I:=q.2 e c d;have A:=h.back _ _ q.1 e c d;rw[Array.getD_eq_getD_getElem?]at I⊢;rw[<- u _ zo];exact I;have I:=q.2 e c d;have A:=h.back _ _ q.1 e c d;rw[Array.getD_eq_getD_getElem?]at I⊢;rw[u _ zo];exact I
   obtain⟨V,O⟩:=List.exists_mem_of_ne_nil _ p
   have x:V<n:=by
    obtain⟨_,o,r,_⟩:=mem_ready.1 O;have:=(Array.getElem?_eq_some_iff.1 r).1;simp at this;omega
   have t:=(to1 V x).2 O;rw[show f+1+m=(f+m)+1 by omega];refine⟨λh0=>(by rw[h0]at t;cases t),λi l=>?_⟩
   have J:∀ (j:Nat) (L:Array Bool),L.getD j true=false->L.getD j false=true->False:=λj L c d=>by
    simp only[Array.getD_eq_getD_getElem?]at c d
    cases X:L[j]? with
    |none=>rw[X]at c;simp at c
    |some b=>rw[X]at c d;simp at c d;rw[c]at d;cases d
   have B:i<n:=by
    rcases Nat.lt_trichotomy i n with q|q|q
    exact q;subst q;exact(J V L (mem_ready.1 t).1 (h.all hc l _ V rfl x)).elim
    exfalso
    obtain⟨_,o,r,C⟩:=mem_ready.1 l;have M:=(Array.getElem?_eq_some_iff.1 r).1;obtain⟨e,c,d,I⟩:=h.suf i o q r;have h4:=C e c d;rw[I]at h4;exact J (i-1) L (N (i-1) zo zo) h4
   obtain⟨_,o,r,_⟩:=mem_ready.1 l;have k:=Zwz (λg b X=>h.gd i o g b B r X) (Q.2 i ((to1 i B).1 l) o ((z i B).trans r))
   have K:match Zz ops s.τ o with
    |some true=>Yk P E s o λv H'=>Re P E kp (ops.toList.take n).toArray T Y f (L1.setIfInBounds i true) (AS.put { s with H:=H' } o.dst v)
    |some false=>Re P E kp (ops.toList.take n).toArray T Y f (L1.setIfInBounds i true) (s.put o.dst (.tuple []))
    |none=>False:=by
    unfold Rb at k
    cases hw:Zz ops s.τ o with
    |none=>rw[hw]at k;exact k.elim
    |some b=>
     rw[hw]at k
     cases b with
     |false=>exact k
     |true=>exact Li hG k
   refine Z40 hP hd r W K λs' a' w' M ha'=>ihf m _ _ s' a' w' (by rw[Array.size_setIfInBounds];exact D) (by rw[Array.size_setIfInBounds];exact U) (hc.set l) (λj hj=>?_) (λj c d=>?_) hm M ha';rw[Array.getElem?_setIfInBounds,Array.getElem?_setIfInBounds,u j hj]
   have c:i<L.size:=by have:=h.lt;omega
   have d:i<L1.size:=zo
   split<;>simp[c,d]
   rw[getD_set_ne true zo];exact N j c d
theorem Gf{id:Nat}{Q:Exit->AS->Prop}{s:AS}(n:Nat)(T:Told)(S:P.follows .mixedOrders=true)(hG:Y6 E.G)(hd:(ops.all (Xz E.n))=true)(hl:Zzg ops n=true)(hn:Nat.blt n ops.size=true)
  (m:∀ hlen:(ops.toList.take n).length=n,Re P E kp (ops.toList.take n).toArray T (λs1=>∃ o,ops[n]?=some o/\HandX P E ops (Post E Q) o s1 λs2=>Yi P E ops (Q .normal) (ops.toList.drop (n+1)) s2) n (Array.replicate n false) s):AW P E (.region id ops true) Q s:=by
 have u:=LastP.of hl hn;intro a w hs;refine wpIn_region_any S ?_
 have O:Qx E s a { w with drawn:=w.drawn+1 }:=by
  obtain⟨X,b⟩:=hs;have K:=Goes.drew b.go.inv (w.drawn+1);refine⟨{ X with w:={ X.w with drawn:=w.drawn+1 } },by rw[b.hw],b.on_ K,b.df.go b.go.inv K,b.sz,λt=>(b.tm t).mono K.le,λg=>(b.gl g).go b.go.inv K⟩
 have hlen:(ops.toList.take n).length=n:=by rw[List.length_take,Array.length_toList];have:=u.lt;omega
 have q:∀ (o2:Array Oper) (k:Nat),Closed o2 (Array.replicate k false):=by
  intro o2 k2 k o _ A;simp only[Array.getD_eq_getD_getElem?,Array.getElem?_replicate]at A
  split at A<;>simp at A
 have m:=m hlen
 have r:=Z14 (P:=P) (R:=Post E Q) u hG (T:=T) (kp:=kp) (λch a w h=>.inr ⟨ch,rfl,h⟩) hd (λx L s1 a1 w1 hf W J N hq=>?_) n (ops.size-n) (Array.replicate n false) (Array.replicate ops.size false) s a _ zS zS (q _ _)
  (λi V=>by have:=u.lt;rw[Array.getElem?_replicate,Array.getElem?_replicate,if_pos zo,if_pos V]) (λi Y p=>by simp[p]) (Nat.le_refl _) O m
 have:=u.lt;rw[show n+(ops.size-n)=ops.size by omega]at r;exact r
 .have z:=u.lt
  obtain⟨f,rfl⟩:∃ f,x=f+1:=⟨x-1,zo⟩;obtain⟨o,C,B⟩:=hq;have D:n∈Region.ready .any ops L:=mem_ready.2 ⟨J.2 n (Nat.le_refl _) z,_,C,λe he hb=>J.1 _ (u.back _ _ C e he hb)⟩;refine⟨λhr=>(by rw[hr]at D;cases D),λi V=>?_⟩;obtain rfl:=u.ready_upto (Nat.le_refl _) J V
  have next:∀ s2 M H,Qx E s2 M H->Yi P E ops (Q .normal) (ops.toList.drop (i+1)) s2->wpAnyIn E.rk.F 0 P .any ops (Post E Q) f (L.setIfInBounds i true) M H:=λs2 M H p A=>
   Zws u (λch a w h=>.inr ⟨ch,rfl,h⟩) (λs a w Y p=>.inl ⟨s,Y,p⟩) hd (ops.size-(i+1)) (i+1) f _ s2 M H (Nat.lt_succ_self _) zo zo (by rw[Array.size_setIfInBounds];exact W) (J.set zo) p A
  obtain⟨X,b⟩:=N;have hw:=b.hw;subst hw
  have j:∀ (I:Oper) d,I∈ops->I.dst=some d->d<E.n:=by
   intro I d S l;rw[Array.all_eq_true']at hd;have:=hd I S;unfold Xz at this;rw[l]at this;simpa using this
  have U:o∈ops:=by rw[Array.getElem?_eq_some_iff]at C;obtain⟨z,rfl⟩:=C;exact Array.getElem_mem z
  unfold wpOpIn;simp only[C]
  rcases B with ⟨y,B⟩|⟨y,B⟩
  .rw[Vn b y j]
   simp only[if_true];refine Oper.wpIn_mono ?_ (B X a1 b);rintro a' w' ⟨s2,p,A⟩;exact next _ _ _ p A
  rw[Vn b y j];simp only[Bool.false_eq_true,if_false];refine⟨λ_ _=>trivial,next _ _ _ ⟨X,?_⟩ B⟩;exact b.step (Goes.refl b.go.inv) (dst:=o.dst) (c:=undef) (v:=.tuple []) (.tuple #[] [] rfl (λi Y p=>by simp at p)) (λd l=>j o d U l)
theorem Ge{id:Nat}{Q:Exit->AS->Prop}{s:AS}(n:Nat)(T:Told)(f:P.follows .mixedOrders=true)(m:Y6 E.G)(hd:(ops.all (Xz E.n))=true)(g:Zzg ops n=true)(e:Nat.blt n ops.size=true)
  (a:Lh (ops.toList.take n).toArray T.bor 0 (ops.toList.take n)=true)
  (h:Yy P E [] (ops.toList.take n).toArray (λs1=>∃ o,ops[n]?=some o/\HandX P E ops (Post E Q) o s1 λs2=>Yi P E ops (Q .normal) (ops.toList.drop (n+1)) s2) T 0 (ops.toList.take n) s):AW P E (.region id ops true) Q s:=by
 refine Gf (kp:=[]) n T f m hd g e λb=>?_
 have d:(ops.toList.take n).toArray.size=n:=by grind
 have l:Closed (ops.toList.take n).toArray (Array.replicate n false):=by
  intro k o _ i;simp only[Array.getD_eq_getD_getElem?,Array.getElem?_replicate]at i
  grind
 have p:=Ik (P:=P) (E:=E) (kp:=[]) (ops:=(ops.toList.take n).toArray) (ops.toList.take n) 0 s (λj=>by grind) h;have c:=Om (P:=P) (E:=E) (kp:=[]) (T:=T) (ops:=(ops.toList.take n).toArray) (Q:=_) (ops.toList.take n) 0 (Array.replicate n false) s (λk=>zS) ⟨by grind,λj q=>by simp_all⟩ l a p
 grind
theorem Zcm{id:Nat}{Q:Exit->AS->Prop}{s:AS}(n:Nat)(ord:List Nat)(kp:Kps)(T:Told)(i:P.follows .mixedOrders=true)(r:Y6 E.G)(hd:(ops.all (Xz E.n))=true)(m:Zzg ops n=true)(g:Nat.blt n ops.size=true)
  (a:Zfg (ops.toList.take n).toArray T.bor [] ord=true) (e:(List.range n).all (λj=>ord.any (Nat.beq j))=true) (l:Nat.beq ord.length n=true)
  (h:Cu P E kp (ops.toList.take n).toArray (λs1=>∃ o,ops[n]?=some o/\HandX P E ops (Post E Q) o s1 λs2=>Yi P E ops (Q .normal) (ops.toList.drop (n+1)) s2) T ord s):AW P E (.region id ops true) Q s:=by
 refine Gf (kp:=kp) n T i r hd m g λb=>?_
 have f:(ops.toList.take n).toArray.size=n:=by simp_all
 have q:Closed (ops.toList.take n).toArray (Array.replicate n false):=by
  intro k o _ c;simp only[Array.getD_eq_getD_getElem?,Array.getElem?_replicate]at c
  grind
 have d:=N1 (P:=P) (E:=E) (kp:=kp) (T:=T) (ops:=(ops.toList.take n).toArray) (Q:=_) ord [] (Array.replicate n false) s (λk c=>by grind) (λj p=>.inr (by
  simp_all)) ⟨by simp_all,λj p=>by grind⟩ q a (Il ord s h)
 simp_all
end
end Go.Hs
