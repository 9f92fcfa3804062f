/- A part. No condition. -/
import Derived.Test.YtjplgaebbfabnaaGreatDoorP14
import Derived.OrdersIn
set_option linter.all false
namespace Go.Hs
section
variable{P:Program}{E:Ent}{ops:Array Oper}{kp:Kps}
structure Told where
 vs:Nat->V
 bor:Nat->Md
def Qb(P:Program)(E:Ent)(kp:Kps)(ops:Array Oper)(T:Told)(Q:AS->Prop):Nat->Array Bool->AS->Prop
 |0,listed,s=>Region.ready .any ops listed=[]/\Q s
 |fuel+1,listed,s=>(Region.ready .any ops listed=[]->Q s) /\
  ∀ i∈Region.ready .any ops listed,∀ o,ops[i]?=some o->Qe P E kp ops (T.bor i) (T.vs i) o (Qb P E kp ops T Q fuel (listed.setIfInBounds i true)) s
theorem O3(r:Y6 E.G){T:Told}{Q:AS->Prop}{R:Exit->Act->World->Prop}(x:∀ ch a w,Pan E ch a w->R (.panic ch) a w)(q:∀ s a w,Mb E s a w->Q s->R .normal a w)(p:(ops.all (Wo E.n))=true):
  ∀ (fuel:Nat) (listed:Array Bool) (s:AS) (a:Act) (w:World),Mb E s a w->Qb P E kp ops T Q fuel listed s->wpAnyIn E.rk.F 0 P .any ops R fuel listed a w
 |0,listed,s,a,w,hs,h=>⟨h.1,q s a w hs h.2⟩
 |fuel+1,listed,s,a,w,hs,h=>by
  refine⟨λA=>q s a w hs (h.1 A),λi z=>?_⟩;obtain⟨_,o,y,_⟩:=mem_ready.1 z;have f:=h.2 i z o y;obtain⟨X,l⟩:=hs
  have g:∀ (m:Oper) d,m∈ops->m.dst=some d->d<E.n:=by
   intro m d B e;rw[Array.all_eq_true']at p;have:=p m B;unfold Wo at this;rw[e]at this;simpa using this
  have k:o∈ops:=by grind
  unfold wpOpIn;simp only[y];unfold Qe at f
  cases j:Z8 ops s.τ o with
  |none=>grind
  |some b=>
   have C:=V7 l j g;rw[j]at f;rw[C]
   cases b with
   |true=>
    refine Oq _ (Jm (Ku r f)) (Oper.wp_mono ?_ (Lm l (λd e=>g o d k e) (Ku r f) x));rintro I w' ⟨v,J,u,t⟩;exact O3 r x q p fuel _ _ _ _ t u
   |false=>
    refine⟨λ_ _=>trivial,?_⟩;refine O3 r x q p fuel _ _ _ _ ⟨X,?_⟩ f;have:=l.step (Goes.refl l.go.inv) (dst:=o.dst) (c:=undef) (v:=.tuple []) (.tuple #[] [] rfl (λi H D=>by simp at D)) (λd e=>g o d k e);rw[l.hw]at this;exact this
def Q6(P:Program)(E:Ent)(kp:Kps)(ops:Array Oper)(T:Told)(Q:AS->Prop):List Nat->AS->Prop
 |[],s=>Q s
 |i::rest,s=>match ops[i]? with
  |some o=>Qe P E kp ops (T.bor i) (T.vs i) o (Q6 P E kp ops T Q rest) s
  |none=>False
def Lq(ops:Array Oper)(bor:Nat->Md)(c:Cls)(i:Nat)(o:Oper):Nat->Nat->List Oper->Bool
 |_,_,[]=>true
 |D,j,oj::rest=>
  cond (oj.after.toList.any λe=>Region.binds .any e&&(Nat.beq e.on i||D.testBit e.on)) (Lq ops bor c i o (D+2^j) (j+1) rest)
   (Pc c (Yk (bor j) oj)&&(o.apart ops oj&&Lq ops bor c i o D (j+1) rest))
def Kt(ops:Array Oper)(bor:Nat->Md):Nat->List Oper->Bool
 |_,[]=>true
 |i,o::rest=>
  (o.after.toList.all λe => !Region.binds .any e||Nat.blt e.on i) &&
  ((match Yk (bor i) o with
   |.W=>rest.all λa=>a.after.toList.any λe=>Region.binds .any e&&Nat.ble i e.on
   |c=>Lq ops bor c i o 0 (i+1) rest) &&
  Kt ops bor (i+1) rest)
def Closed(ops:Array Oper)(listed:Array Bool):Prop:=
 ∀ k o,ops[k]?=some o->listed.getD k false=true->∀ e∈o.after,Region.binds .any e=true->listed.getD e.on false=true
theorem Closed.set{a:Array Bool}(h:Closed ops a){i:Nat}(hi:i∈Region.ready .any ops a):Closed ops (a.setIfInBounds i true):=by
 intro k o f g e j l;obtain⟨_,m,b,d⟩:=mem_ready.1 hi
 by_cases c:k=i
 subst c;rw[f]at b;cases b;have:=d e j l;exact getD_set_true this;rw[getD_set_ne false (Ne.symm c)]at g;exact getD_set_true (h k o f g e j l)
def Ziu(ops:Array Oper)(i:Nat)(D:Nat->Bool):Prop:=
 ∀ j oj,ops[j]?=some oj->D j=true->∃ e∈oj.after,Region.binds .any e=true/\(e.on=i\/(e.on<j/\D e.on=true))
theorem Fx{a:Array Bool}(n:Closed ops a){i:Nat}(hi:a.getD i false=false){D:Nat->Bool}(q:Ziu ops i D):
  ∀ j,j<ops.size->D j=true->(∀ o,ops[j]?=some o->∀ e∈o.after,Region.binds .any e=true->a.getD e.on false=true)->False:=by
 intro j
 induction j using Nat.strongRecOn with
 |_ j ih=>
  intro b l c;obtain⟨e,m,p,g|⟨g,r⟩⟩:=q j _ (Array.getElem?_eq_getElem b) l
  grind
  have k:=c _ (Array.getElem?_eq_getElem b) e m p;exact ih e.on g zo r (λo h s d f=>n e.on o h k s d f)
def Zj9(ops:Array Oper)(bor:Nat->Md)(D:Nat->Bool)(i:Nat)(oi:Oper)(listed:Array Bool):Prop:=
 ∀ j oj,ops[j]?=some oj->j≠i->listed.getD j true=false->D j=false->Pc (Yk (bor i) oi) (Yk (bor j) oj)=true/\oi.apart ops oj=true
theorem Zf5{bor:Md}{v:V}{o:Oper}{K:AS->Prop}{s:AS}(f:Yk bor o ≠ .W)(h:Qe P E kp ops bor v o K s):∃ s',K s':=by
 by_cases b:Yk bor o=.P\/Yk bor o=.R\/Yk bor o=.L\/Yk bor o=.B
 rw[Ql b]at h
 grind
 have c:Yk bor o=.A:=by cases a:Yk bor o<;>simp[a]at b f⊢
 unfold Qe at h
 split at h
 unfold Xt at h;simp only[c]at h;obtain⟨d,u,mk,_,_,e,_⟩:=P9 c h.2;exact⟨_,e 0⟩
 grind
 grind
theorem Zbu{T:Told}{Q:AS->Prop}{i:Nat}{m:Oper}(p:ops[i]?=some m)(G:Yk (T.bor i) m ≠ .W){D:Nat->Bool}(L:Ziu ops i D):
  ∀ (n:Nat) (listed:Array Bool) (s:AS),Closed ops listed->i∈Region.ready .any ops listed->Zj9 ops T.bor D i m listed ->
   Qe P E kp ops (T.bor i) (T.vs i) m (Qb P E kp ops T Q n (listed.setIfInBounds i true)) s->Qb P E kp ops T Q (n+1) listed s:=by
 intro n
 have q:∀ (listed:Array Bool),i∈Region.ready .any ops listed->listed.getD i false=false:=by
  intro listed c;have S:=(mem_ready.1 c).1
  grind
 have v:∀ (listed:Array Bool),Closed ops listed->i∈Region.ready .any ops listed->∀ j,j∈Region.ready .any ops listed->D j=false:=by
  intro listed w c j d;obtain⟨_,l,a,K⟩:=mem_ready.1 d
  have C:j<ops.size:=by grind
  cases I:D j with
  |false=>rfl
  |true=>exact(Fx w (q listed c) L j C I (λo N e O R=>by grind)).elim
 induction n with
 |zero=>
  intro listed s w c F h;refine⟨λy=>(by rw[y]at c;cases c),λj d l a=>?_⟩
  by_cases b:j=i
  subst b;rw[p]at a;cases a;exact h;obtain⟨x,J,_⟩:=Zf5 G h;have:=ready_mono (md:=.any) d b;rw[J]at this;cases this
 |succ n ih=>
  intro listed s w c F h;refine⟨λy=>(by rw[y]at c;cases c),λj d l a=>?_⟩
  by_cases b:j=i
  subst b;rw[p]at a;cases a;exact h;have u:listed.getD j true=false:=(mem_ready.1 d).1;obtain⟨g,H⟩:=F j l a b u (v listed w c j d)
  have J:Qe P E kp ops (T.bor i) (T.vs i) m (Qe P E kp ops (T.bor j) (T.vs j) l (Qb P E kp ops T Q n ((listed.setIfInBounds i true).setIfInBounds j true))) s:=
   Vg (λx f=>f.2 j (ready_mono d b) l a) h
  have M:=Z9h H g J;refine Vg (λx f=>?_) M;refine ih (listed.setIfInBounds j true) x (w.set d) (ready_mono c (Ne.symm b)) ?_ ?_;intro k ok z A r B;refine F k ok z A ?_ B
  by_cases t:k=j
  subst t;exact u;rw[getD_set_ne true (Ne.symm t)]at r;exact r;rw[Array.setIfInBounds_comm _ _ b];exact f
theorem F0{D j:Nat}(h:D<2^j)(k:Nat):(D+2^j).testBit k=(decide (k=j)||D.testBit k):=by
 rw[Nat.add_comm]
 rcases Nat.lt_trichotomy k j with a|a|a
 rw[Nat.testBit_two_pow_add_gt a];simp;omega;subst a;rw[Nat.testBit_two_pow_add_eq,Nat.testBit_lt_two_pow h];simp;rw[Nat.testBit_lt_two_pow,Nat.testBit_lt_two_pow]
 grind
 exact Nat.lt_of_lt_of_le h (Nat.pow_le_pow_right zo zo);have:2^(j+1)<=2^k:=Nat.pow_le_pow_right zo zo;omega
theorem Hq{bor:Nat->Md}{c:Cls}{i:Nat}{o:Oper}:∀ (rest:List Oper) (D j:Nat),(∀ k,rest[k]?=ops[j+k]?)->D<2^j ->
  (∀ k ok,k<j->ops[k]?=some ok->D.testBit k=true->∃ e∈ok.after,Region.binds .any e=true/\(e.on=i\/(e.on<k/\D.testBit e.on=true))) ->
  Lq ops bor c i o D j rest=true ->
  ∃ D':Nat->Bool,(∀ k,k<j->D' k=D.testBit k)/\Ziu ops i D'/\∀ k ok,j<=k->ops[k]?=some ok->D' k=false->Pc c (Yk (bor k) ok)=true/\o.apart ops ok=true
 |[],D,j,hl,hD,hw,_=>by
  have B:∀ k,j<=k->ops[k]?=none:=λk n=>by have:=hl (k-j);rw[show j+(k-j)=k by omega]at this;rw[<- this];rfl
  refine⟨λk=>decide (k<j)&&D.testBit k,λk n=>by simp[n],λk ok a f=>?_,λk ok n a=>by rw[B k n]at a;cases a⟩
  have b:k<j:=by
   rcases Nat.lt_or_ge k j with h|h
   exact h;rw[B k h]at a;cases a
  simp only[Bool.and_eq_true,decide_eq_true_eq]at f;obtain⟨e,t,x,h⟩:=hw k ok b a f.2;refine⟨e,t,x,?_⟩
  rcases h with h|⟨q,u⟩
  exact .inl h;exact .inr ⟨q,by simp only[Bool.and_eq_true,decide_eq_true_eq];exact⟨zo,u⟩⟩
 |oj::rest,D,j,hl,hD,hw,h=>by
  have r:ops[j]?=some oj:=by have:=hl 0;simpa using this.symm
  have s:∀ k,rest[k]?=ops[j+1+k]? := λk=>by have:=hl (k+1);rw[show j+1+k=j+(k+1) by omega];simpa using this
  have C:2^(j+1)=2^j+2^j:=by rw[Nat.pow_succ];omega
  simp only[Lq]at h
  cases g:(oj.after.toList.any λe=>Region.binds .any e&&(Nat.beq e.on i||D.testBit e.on))with
  |true=>
   rw[g,cond_true]at h;have d:=F0 hD
   obtain⟨D',q,u,A⟩:=Hq rest (D+2^j) (j+1) s zo (by
    intro k ok n a m;rw[d,Bool.or_eq_true,decide_eq_true_eq]at m
    by_cases b:k=j
    subst b;rw[r]at a;cases a;rw[List.any_eq_true]at g;obtain⟨e,t,l⟩:=g;simp only[Bool.and_eq_true,Bool.or_eq_true]at l;refine⟨e,zu t,l.1,?_⟩
    rcases l.2 with l|l
    exact .inl (Nat.eq_of_beq_eq_true l);refine .inr ⟨?_,by rw[d,l];simp⟩
    rcases Nat.lt_or_ge e.on k with z|z
    exact z;rw[Nat.testBit_lt_two_pow (Nat.lt_of_lt_of_le hD (Nat.pow_le_pow_right zo z))]at l;cases l;obtain⟨e,t,x,l⟩:=hw k ok zo a (m.resolve_left b);refine⟨e,t,x,?_⟩
    rcases l with l|⟨w,v⟩
    exact .inl l
    exact .inr ⟨w,by rw[d,v];simp⟩) h
   refine⟨D',λk n=>?_,u,λk ok n a f=>?_⟩;rw[q k zo,d];simp;omega;refine A k ok ?_ a f
   by_cases b:k=j
   subst b;rw[q k zo,d]at f;simp at f;omega
  |false=>
   rw[g,cond_false]at h;simp only[Bool.and_eq_true]at h;obtain⟨p,y,h⟩:=h
   obtain⟨D',q,u,A⟩:=Hq rest D (j+1) s zo (by
    intro k ok n a m
    by_cases b:k=j
    subst b;rw[Nat.testBit_lt_two_pow hD]at m;cases m
    exact hw k ok zo a m) h
   refine⟨D',λk n=>q k zo,u,λk ok n a f=>?_⟩
   by_cases b:k=j
   subst b;rw[r]at a;cases a;exact⟨p,y⟩;exact A k ok zo a f
def ListedTo(ops:Array Oper)(i:Nat)(listed:Array Bool):Prop:=listed.size=ops.size/\∀ j,j<ops.size->listed[j]?=some (decide (j<i))
theorem ListedTo.next{i:Nat}{a:Array Bool}(h:ListedTo ops i a):ListedTo ops (i+1) (a.setIfInBounds i true):=by
 refine⟨by rw[Array.size_setIfInBounds];exact h.1,λj c=>?_⟩;rw[Array.getElem?_setIfInBounds]
 by_cases b:i=j
 subst b;rw[if_pos rfl,if_pos (by rw[h.1];exact c)];simp;rw[if_neg b,h.2 j c]
 congr 1
 grind
theorem ListedTo.getD{i:Nat}{a:Array Bool}(h:ListedTo ops i a){j:Nat}(c:j<ops.size)(b:Bool):a.getD j b=decide (j<i):=by
 rw[Array.getD_eq_getD_getElem?,h.2 j c];rfl
theorem N4{T:Told}{Q:AS->Prop}:∀ (rest:List Oper) (i:Nat) (listed:Array Bool) (s:AS),(∀ k,rest[k]?=ops[i+k]?)->ListedTo ops i listed->Closed ops listed->Kt ops T.bor i rest=true ->
  Q6 P E kp ops T Q ((List.range rest.length).map (i + ·)) s->Qb P E kp ops T Q rest.length listed s
 |[],i,listed,s,hl,hL,_,_,h=>by
  refine⟨?_,by simpa[Q6]using h⟩;rw[List.eq_nil_iff_forall_not_mem];intro j B;obtain⟨K,o,y,_⟩:=mem_ready.1 B
  have z:j<ops.size:=by rw[Array.getElem?_eq_some_iff]at y;exact y.1
  rw[hL.getD z]at K;have:=hl (j-i);simp only[decide_eq_false_iff_not]at K;rw[show i+(j-i)=j by omega,y]at this;simp at this
 |o::rest,i,listed,s,hl,hL,hc,hok,h=>by
  have d:ops[i]?=some o:=by have:=hl 0;simpa using this.symm
  have C:i<ops.size:=by rw[Array.getElem?_eq_some_iff]at d;exact d.1
  have r:∀ k,rest[k]?=ops[i+1+k]? := λk=>by have:=hl (k+1);rw[show i+1+k=i+(k+1) by omega];simpa using this
  have n:(List.range (o::rest).length).map (i + ·)=i::(List.range rest.length).map (i+1 + ·):=by
   simp only[List.length_cons,List.range_succ_eq_map,List.map_cons,Nat.add_zero,List.map_map]
   congr 1
   apply List.map_congr_left;intro k _;simp;omega
  rw[n]at h;simp only[Q6,d]at h;simp only[Kt,Bool.and_eq_true]at hok;obtain⟨v,l,q⟩:=hok
  have w:i∈Region.ready .any ops listed:=by
   refine mem_ready.2 ⟨by rw[hL.getD C];simp,o,d,λe G U=>?_⟩;rw[List.all_eq_true]at v;have:=v e (zu G);rw[U]at this;simp only[Bool.not_true,Bool.false_or,Nat.blt_eq]at this;rw[hL.getD zo];simpa using this
  have N:∀ u,Q6 P E kp ops T Q ((List.range rest.length).map (i+1 + ·)) u->Qb P E kp ops T Q rest.length (listed.setIfInBounds i true) u:=λu x=>N4 rest (i+1) _ u r hL.next (hc.set w) q x;have L:=Vg N h
  have b:∀ j m,ops[j]?=some m->j≠i->listed.getD j true=false->i+1<=j:=by
   intro j m a g f;rw[hL.getD (by rw[Array.getElem?_eq_some_iff]at a;exact a.1)]at f;simp at f;omega
  by_cases H:Yk (T.bor i) o=.W
  rw[H]at l;simp only at l;refine⟨λv=>(by rw[v]at w;cases w),λj B m a=>?_⟩
  by_cases g:j=i
  subst g;rw[d]at a;cases a;exact L
  exfalso
  obtain⟨f,M,p,t⟩:=mem_ready.1 B;rw[a]at p;cases p;have S:=b j m a g f;rw[List.all_eq_true]at l
  have A:rest[j-(i+1)]?=some m:=by rw[r (j-(i+1)),show i+1+(j-(i+1))=j by omega,a]
  have:=l m (List.mem_of_getElem? A);rw[List.any_eq_true]at this;obtain⟨e,G,J⟩:=this;simp only[Bool.and_eq_true,Nat.ble_eq]at J;have c:=t e (zu G) J.1
  by_cases F:e.on<ops.size
  rw[hL.getD F]at c;simp at c;omega;rw[Array.getD_eq_getD_getElem?,Array.getElem?_eq_none (by rw[hL.1];omega)]at c;simp at c
  have O:Lq ops T.bor (Yk (T.bor i) o) i o 0 (i+1) rest=true:=by
   revert l H
   cases Yk (T.bor i) o<;>first|exact λh _=>h|(intro _ h;exact absurd rfl h)
  obtain⟨D,Y,X,V⟩:=Hq rest 0 (i+1) r (Nat.two_pow_pos _) (λk ok _ _ R=>by simp at R) O;exact Zbu d H X rest.length listed s hc w (λj m a g f I=>V j m (b j m a g f) a I) L
theorem Z9w{id:Nat}{Q:Exit->AS->Prop}{s:AS}(l:P.follows .mixedOrders=true)(r:Y6 E.G)(kp:Kps)(T:Told)(p:(ops.all (Wo E.n))=true)
  (f:Kt ops T.bor 0 ops.toList=true) (h:Q6 P E kp ops T (Q .normal) (List.range ops.size) s):AW P E (.region id ops true) Q s:=by
 intro a w i;refine wpIn_region_any l ?_
 have e:Mb E s a { w with drawn:=w.drawn+1 }:=by
  obtain⟨X,b⟩:=i;have d:=Goes.drew b.go.inv (w.drawn+1);refine⟨{ X with w:={ X.w with drawn:=w.drawn+1 } },by rw[b.hw],b.on_ d,b.df.go b.go.inv d,b.sz,λt=>(b.tm t).mono d.le,λg=>(b.gl g).go b.go.inv d⟩
 have q:Closed ops (Array.replicate ops.size false):=by
  intro k o _ m;simp only[Array.getD_eq_getD_getElem?,Array.getElem?_replicate]at m
  grind
 have c:=N4 (P:=P) (E:=E) (kp:=kp) (T:=T) (Q:=Q .normal) ops.toList 0 (Array.replicate ops.size false) s (λk=>zS) ⟨zS,λj y=>by grind⟩ q f (by simp_all);exact O3 r (R:=Post E Q) (λx a w h=>.inr ⟨x,rfl,h⟩) (λs a w v u=>.inl ⟨s,v,u⟩) p ops.size _ s a _ e c
end
end Go.Hs
