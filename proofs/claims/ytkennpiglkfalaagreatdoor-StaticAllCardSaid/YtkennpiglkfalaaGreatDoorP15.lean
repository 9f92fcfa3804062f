/- A part. No condition. -/
import Derived.Test.YtkennpiglkfalaaGreatDoorP14
import Derived.OrdersIn
set_option linter.all false
open Bool renaming false->ab,true->ad
open Option renaming some->ae
open Go.Region renaming binds->au,ready->av
namespace Go.Hs
section
variable{P:Program}{E:BX}{ops:Array Oper}{kp:FP}
structure MK where
 vs:Nat->V
 AX:Nat->Md
def Nr(P:Program)(E:BX)(kp:FP)(ops:Array Oper)(T:MK)(Q:AS->Prop):Nat->Array Bool->AS->Prop
 |0,listed,s=>av .any ops listed=[]/\Q s
 |fuel+1,listed,s=>(av .any ops listed=[]->Q s) /\
  ∀ i∈av .any ops listed,∀ o,ops[i]?=ae o->Ow P E kp ops (T.AX i) (T.vs i) o (Nr P E kp ops T Q fuel (listed.setIfInBounds i ad)) s
def Eu(q:Yy E.G){T Q R}(u:∀ ch a w,Pan E ch a w->R (.panic ch) a w)(p:∀ s a w,Ng E s a w->Q s->R .normal a w)(m:(ops.all (W4 E.n))=ad):∀ fuel listed s a w,Ng E s a w->Nr P E kp ops T Q fuel listed s->wpAnyIn E.rk.F 0 P .any ops R fuel listed a w
 |0,listed,s,a,w,hs,h=>⟨h.1,p s a w hs h.2⟩|fuel+1,listed,s,a,w,hs,h=>by
  refine⟨λz=>p s a w hs (h.1 z),λi y=>?_⟩;obtain⟨_,o,x,_⟩:=mem_ready.1 y;have e:=h.2 i y o x;obtain⟨X,k⟩:=hs;have f:∀ (l) d,l∈ops->l.dst=ae d->d<E.n:=by intro l d A c;rw[KF]at m;have:=m l A;unfold W4 at this;rw[c]at this;simpa using this
  have j:o∈ops:=zG;unfold wpOpIn;simp only[x];unfold Ow at e;rcases g:Yc ops s.τ o with _|b;grind;have B:=Uw k g f;rw[g]at e;rw[B];cases b;refine⟨λ_ _=>trivial,?_⟩;refine Eu q u p m _ _ _ _ _ ⟨X,?_⟩ e;have:=k.step (GF k.go.BJ) (.tuple #[] [] rfl (λi C h2=>by simp at h2)) (λd c=>f o d j c);rw[k.hw]at this;exact this;refine Ol _ (Fa (Hr q e)) (Oper.wp_mono ?_ (Ia k (λd c=>f o d j c) (Hr q e) u));rintro D w' ⟨v,H,t,r⟩;exact Eu q u p m _ _ _ _ _ r t
def Nl(P:Program)(E:BX)(kp:FP)(ops:Array Oper)(T:MK)(Q:AS->Prop):List Nat->AS->Prop
 |[],s=>Q s|i::rest,s=>match ops[i]? with|some o=>Ow P E kp ops (T.AX i) (T.vs i) o (Nl P E kp ops T Q rest) s|none=>False
def Ig(ops:Array Oper)(AX:Nat->Md)(c:NH)(i:Nat)(o:Oper):Nat->Nat->List Oper->Bool
 |_,_,[]=>ad|D,j,oj::rest=>
  cond (oj.after.toList.any λe=>au .any e&&(Nat.beq e.on i||D.testBit e.on)) (Ig ops AX c i o (D+2^j) (j+1) rest)
   (Ot c (Yo (AX j) oj)&&(o.apart ops oj&&Ig ops AX c i o D (j+1) rest))
def Hq(ops:Array Oper)(AX:Nat->Md):Nat->List Oper->Bool
 |_,[]=>ad|i,o::rest=>
  (o.after.toList.all λe => !au .any e||Nat.blt e.on i) &&
  ((match Yo (AX i) o with|.W=>rest.all λa=>a.after.toList.any λe=>au .any e&&Nat.ble i e.on|c=>Ig ops AX c i o 0 (i+1) rest) &&
  Hq ops AX (i+1) rest)
def Closed(ops:Array Oper)(listed:Array Bool):Prop:=
 ∀ k o,ops[k]?=ae o->listed.getD k ab=ad->∀ e∈o.after,au .any e=ad->listed.getD e.on ab=ad
def Closed.set{listed}(h:Closed ops listed){i}(hi:i∈av .any ops listed):Closed ops (listed.setIfInBounds i ad):=by intro k o d f e g j;obtain⟨_,l,a,c⟩:=mem_ready.1 hi;by_cases b:k=i;subst b;rw[d]at a;cases a;have:=c e g j;exact getD_set_true this;rw[getD_set_ne _ (FS b)]at f;exact getD_set_true (h k o d f e g j)
def YZ(ops:Array Oper)(i:Nat)(D:Nat->Bool):Prop:=
 ∀ j oj,ops[j]?=ae oj->D j=ad->∃ e∈oj.after,au .any e=ad/\(e.on=i\/(e.on<j/\D e.on=ad))
def Bz{listed}(m:Closed ops listed){i}(hi:listed.getD i ab=ab){D}(p:YZ ops i D):∀ j,j<ops.size->D j=ad->(∀ o,ops[j]?=ae o->∀ e∈o.after,au .any e=ad->listed.getD e.on ab=ad)->False:=by
 intro j
 induction j using Nat.strongRecOn with|_ j ih=>intro b k a;obtain⟨e,l,n,f|⟨f,h2⟩⟩:=p j _ (PT _) k;grind;have h:=a _ (PT b) e l n;exact ih _ f zo h2 (λo g q c d=>m e.on o g h q c d)
def gR(ops:Array Oper)(AX:Nat->Md)(D:Nat->Bool)(i:Nat)(oi:Oper)(listed:Array Bool):Prop:=
 ∀ j oj,ops[j]?=ae oj->j≠i->listed.getD j ad=ab->D j=ab->Ot (Yo (AX i) oi) (Yo (AX j) oj)=ad/\oi.apart ops oj=ad
def fS{AX v o K s}(f:Yo AX o ≠ .W)(h:Ow P E kp ops AX v o K s):∃ s',K s':=by
 by_cases b:Yo AX o=.P\/Yo AX o=.R\/Yo AX o=.L\/Yo AX o=.B;rw[Pw b]at h;grind;have c:Yo AX o=.A:=by cases a:Yo _ o<;>simp[a]at b f⊢
 unfold Ow at h;split at h;unfold Wm at h;simp only[c]at h;obtain⟨d,u,mk,_,_,e,_⟩:=Nx c h.2;exact⟨_,e 0⟩;grind;grind
def tx{T Q i oi}(l:ops[i]?=ae oi)(F:Yo (T.AX i) oi ≠ .W){D}(K:YZ ops i D):∀ n listed s,Closed ops listed->i∈av .any ops listed->gR ops T.AX D i oi listed ->
   Ow P E kp ops (T.AX i) (T.vs i) oi (Nr P E kp ops T Q n (listed.setIfInBounds i ad)) s->Nr P E kp ops T Q (n+1) listed s:=by
 intro n;have m:∀ (listed),i∈av .any ops listed->listed.getD i ab=ab:=by intro listed c;have O:=(mem_ready.1 c).1;grind
 have t:∀ (listed),Closed ops listed->i∈av .any ops listed->∀ j,j∈av .any ops listed->D j=ab:=by intro listed u c j d;obtain⟨_,v,a,J⟩:=mem_ready.1 d;have B:j<ops.size:=zG;cases H:D j;rfl;exact(Bz u (m listed c) K j B H (λo L e M N=>by grind)).elim
 induction n with
 |zero=>intro listed s u c C h;refine⟨λx=>(by rw[x]at c;cases c),λj d v a=>?_⟩;by_cases b:j=i;subst b;rw[l]at a;cases a;exact h;obtain⟨w,I,_⟩:=fS F h;have:=ready_mono d b;rw[I]at this;cases this
 |succ n ih=>
  intro listed s u c C h;refine⟨λx=>(by rw[x]at c;cases c),λj d v a=>?_⟩;by_cases b:j=i;subst b;rw[l]at a;cases a;exact h;have r:=(mem_ready.1 d).1;obtain⟨g,G⟩:=C j v a b r (t listed u c j d);have I :=
   V4 (λw f=>f.2 j (ready_mono d b) v a) h
  have h2:=iN G g I;refine V4 (λw f=>?_) h2;refine ih (listed.setIfInBounds j ad) w (u.set d) (ready_mono c (FS b)) ?_ ?_;intro k ok y z p A;refine C k ok y z ?_ A;by_cases q:k=j;subst q;exact r;rw[getD_set_ne ad (FS q)]at p;exact p;rw[lR _ _ b];exact f
def B1{D j}(h:D<2^j)(k):(D+2^j).testBit k=(decide (k=j)||D.testBit k):=by rw[WL];rcases Nat.lt_trichotomy k j with a|a|a;rw[Nat.testBit_two_pow_add_gt a];simp;omega;subst a;rw[Nat.testBit_two_pow_add_eq,TR h];simp;rw[TR,TR];grind;exact GU h (cV zo zo);have:2^(j+1)<=2^k:=cV zo zo;omega
def Dj{AX c i o}:∀ rest D j,(∀ k,rest[k]?=ops[j+k]?)->D<2^j ->
  (∀ k ok,k<j->ops[k]?=ae ok->D.testBit k=ad->∃ e∈ok.after,au .any e=ad/\(e.on=i\/(e.on<k/\D.testBit e.on=ad))) ->
  Ig ops AX c i o D j rest=ad ->
  ∃ D',(∀ k,k<j->D' k=D.testBit k)/\YZ ops i D'/\∀ k ok,j<=k->ops[k]?=ae ok->D' k=ab->Ot c (Yo (AX k) ok)=ad/\o.apart ops ok=ad
 |[],D,j,hl,hD,hw,_=>by
  have A:∀ k,j<=k->ops[k]?=none:=λk n=>by have:=hl (k-j);rw[show j+(k-j)=k by omega]at this;rw[<- this];rfl
  refine⟨λk=>decide (k<j)&&D.testBit k,λk n=>by simp[n],λk ok a f=>?_,λk ok n a=>by rw[A k n]at a;cases a⟩;have b:k<j:=by rcases GG k j with h|h;exact h;rw[A k h]at a;cases a
  simp only[BP,CM]at f;obtain⟨e,t,w,h⟩:=hw k ok b a f.2;refine⟨e,t,w,?_⟩;rcases h with h|⟨q,h2⟩;exact .inl h;exact .inr ⟨q,by simp only[BP,CM];exact⟨zo,h2⟩⟩
 |oj::rest,D,j,hl,hD,hw,h=>by
  have r:ops[j]?=ae oj:=by have:=hl 0;simpa using this.symm
  have s:∀ k,rest[k]?=ops[j+1+k]? := λk=>by have:=hl (k+1);rw[show j+1+k=j+(k+1) by omega];simpa using this
  have B:2^(j+1)=2^j+2^j:=by rw[cW];omega
  simp only[Ig]at h;cases g:(oj.after.toList.any λe=>au .any e&&(Nat.beq e.on i||D.testBit e.on));rw[g,cond_false]at h;simp only[BP]at h;obtain⟨p,x,h⟩:=h;obtain⟨D',q,h2,z⟩:=Dj rest D (j+1) s zo (by intro k ok n a m;by_cases b:k=j;subst b;rw[TR hD]at m;cases m;exact hw k ok zo a m) h
  refine⟨D',λk n=>q k zo,h2,λk ok n a f=>?_⟩;by_cases b:k=j;subst b;rw[r]at a;cases a;exact⟨p,x⟩;exact z k ok zo a f;rw[g,MX]at h;have d:=B1 hD;obtain⟨D',q,h2,z⟩:=Dj rest (D+2^j) (j+1) s zo (by intro k ok n a m;rw[d,F_,CM]at m;by_cases b:k=j;subst b;rw[r]at a;cases a;rw[FX]at g;obtain⟨e,t,l⟩:=g;simp only[BP,F_]at l;refine⟨e,zu t,l.1,?_⟩;rcases l.2 with l|l;exact .inl (QM l);refine .inr ⟨?_,by rw[d,l];simp⟩;rcases GG e.on k with y|y;exact y;rw[TR (GU hD (cV zo y))]at l;cases l;obtain⟨e,t,w,l⟩:=hw k ok zo a (m.resolve_left b);refine⟨e,t,w,?_⟩;rcases l with l|⟨v,u⟩;exact .inl l;exact .inr ⟨v,by rw[d,u];simp⟩) h
  refine⟨D',λk n=>?_,h2,λk ok n a f=>?_⟩;rw[q k zo,d];simp;omega;refine z k ok ?_ a f;by_cases b:k=j;subst b;rw[q k zo,d]at f;simp at f;omega
def ListedTo(ops:Array Oper)(i:Nat)(listed:Array Bool):Prop:=listed.size=ops.size/\∀ j,j<ops.size->listed[j]?=ae (decide (j<i))
def ListedTo.next{i listed}(h:ListedTo ops i listed):ListedTo ops (i+1) (listed.setIfInBounds i ad):=by refine⟨by rw[PW];exact h.1,λj b=>?_⟩;rw[SW];by_cases a:i=j;subst a;rw[AF rfl,AF (by rw[h.1];exact b)];simp;rw[AA a,h.2 j b];congr 1;grind
def ListedTo.getD{i listed}(h:ListedTo ops i listed){j}(a:j<ops.size)(b):listed.getD j b=decide (j<i):=by rw[HA,h.2 j a];rfl
def Lz{T Q}:∀ rest i listed s,(∀ k,rest[k]?=ops[i+k]?)->ListedTo ops i listed->Closed ops listed->Hq ops T.AX i rest=ad ->
  Nl P E kp ops T Q ((List.range rest.length).map (i + ·)) s->Nr P E kp ops T Q rest.length listed s
 |[],i,listed,s,hl,hL,_,_,h=>by
  refine⟨?_,by simpa[Nl]using h⟩;rw[OQ];intro j B;obtain⟨K,o,y,_⟩:=mem_ready.1 B;have z:j<ops.size:=by rw[DB]at y;exact y.1
  rw[hL.getD z]at K;have:=hl (j-i);simp only[IL]at K;rw[show i+(j-i)=j by omega,y]at this;simp at this
 |o::rest,i,listed,s,hl,hL,hc,hok,h=>by
  have d:ops[i]?=ae o:=by have:=hl 0;simpa using this.symm
  have C:i<ops.size:=by rw[DB]at d;exact d.1
  have r:∀ k,rest[k]?=ops[i+1+k]? := λk=>by have:=hl (k+1);rw[show i+1+k=i+(k+1) by omega];simpa using this
  have n:(List.range (o::rest).length).map (i + ·)=i::(List.range rest.length).map (i+1 + ·):=by simp only[CW,OY,BI,GN,EL];congr 1;apply FQ;intro k _;simp;omega
  rw[n]at h;simp only[Nl,d]at h;simp only[Hq,BP]at hok;obtain⟨v,l,q⟩:=hok;have w:i∈av .any ops listed:=by refine mem_ready.2 ⟨by rw[hL.getD C];simp,o,d,λe G U=>?_⟩;rw[ER]at v;have:=v e (zu G);rw[U]at this;simp only[GR,CH,IR]at this;rw[hL.getD zo];simpa using this
  have N:∀ u,Nl P E kp _ T Q _ u->Nr P E kp _ T Q _ _ u:=λu x=>Lz _ _ _ u r hL.next (hc.set w) q x;have L:=V4 N h;have b:∀ j m,ops[j]?=ae m->j≠i->listed.getD j ad=ab->i+1<=j:=by intro j m a g f;rw[hL.getD (by rw[DB]at a;exact a.1)]at f;simp at f;omega
  by_cases H:Yo (T.AX i) o=.W;rw[H]at l;simp only at l;refine⟨λv=>(by rw[v]at w;cases w),λj B m a=>?_⟩;by_cases g:j=i;subst g;rw[d]at a;cases a;exact L;exfalso;obtain⟨f,M,p,t⟩:=mem_ready.1 B;rw[a]at p;cases p;have S:=b j m a g f;rw[ER]at l;have A:rest[j-(i+1)]?=ae m:=by rw[r (j-(i+1)),show i+1+(j-(i+1))=j by omega,a]
  have:=l m (DY A);rw[FX]at this;obtain⟨e,G,J⟩:=this;simp only[BP,WM]at J;have c:=t e (zu G) J.1;by_cases F:e.on<ops.size;rw[hL.getD F]at c;simp at c;omega;rw[HA,lM (by rw[hL.1];omega)]at c;simp at c;have O:Ig ops T.AX (Yo (T.AX i) o) i o 0 (i+1) rest=ad:=by revert l H;cases Yo (T.AX i) o<;>first|exact λh _=>h|(intro _ h;exact absurd rfl h)
  obtain⟨D,X,h2,V⟩:=Dj rest 0 (i+1) r (Nat.two_pow_pos _) (λk ok _ _ R=>by simp at R) O;exact tx d H h2 rest.length listed s hc w (λj m a g f I=>V j m (b j m a g f) a I) L
def xz{id Q s}(l:P.follows .mixedOrders=ad)(r:Yy E.G)(kp T)(p:(ops.all (W4 E.n))=ad)(f:Hq ops T.AX 0 ops.toList=ad)(h:Nl P E kp ops T (Q .normal) (List.range ops.size) s):AW P E (.region id ops ad) Q s:=by
 intro a w i;refine wpIn_region_any l ?_;have e:Ng E s a {w with drawn:=w.drawn+1}:=by obtain⟨X,b⟩:=i;have d:=P' b.go.BJ (w.drawn+1);refine⟨{X with w:={X.w with drawn:=w.drawn+1} },by rw[b.hw],b.on_ d,b.df.go b.go.BJ d,b.sz,λt=>(b.tm t).mono d.le,λg=>(b.gl g).go b.go.BJ d⟩
 have q:Closed ops (Array.replicate ops.size ab):=by intro k o _ m;simp only[HA,OO]at m;grind
 have c:=Lz (P:=P) (E:=E) (kp:=kp) (Q:=Q .normal) _ 0 _ s (λk=>zS) ⟨zS,λj x=>by grind⟩ q f (by simp_all);exact Eu r (λv a w h=>.inr ⟨v,rfl,h⟩) (λs a w u h2=>.inl ⟨s,u,h2⟩) p _ _ s a _ e c
