/- A part. No condition. -/
import Derived.Test.YtkennpiglkfalaaGreatDoorP42
set_option linter.all false
open Bool renaming false->ab,true->ad
open Option renaming some->ae
open Array renaming replicate->bm
open Nat renaming beq->bn,blt->aT
open Go.Region renaming binds->au,ready->av
namespace Go.Hs
section
variable{P:Program}{E:BX}{ops:Array Oper}{kp:FP}
inductive ME(ops:Array Oper)(i:Nat):Nat->Prop
 |on {j:Nat} {oj:Oper} {e:Edge}:ops[j]?=ae oj->e∈oj.after->au .any e=ad->e.on=i->ME ops i j
 |via {j:Nat} {oj:Oper} {e:Edge}:ops[j]?=ae oj->e∈oj.after->au .any e=ad->ME ops i e.on->ME ops i j
def sU{listed}(g:Closed ops listed){i}(hi:listed.getD i ab=ab){j}(h:ME ops i j):(∀ o,ops[j]?=ae o->∀ e∈o.after,au .any e=ad->listed.getD e.on ab=ad)->False:=by induction h with|on hoj he hb hon=>grind|via hoj he hb _ ih=>intro a;have f:=a _ hoj _ he hb;exact ih λo d k b c=>g _ o d f k b c
def nQ{T Q i oi}(l:ops[i]?=ae oi)(C:Yo (T.AX i) oi ≠ .W){D}(J:∀ j,D j=ad->ME ops i j):∀ n listed s,Closed ops listed->i∈av .any ops listed->gR ops T.AX D i oi listed ->
   Ow P E kp ops (T.AX i) (T.vs i) oi (Nr P E kp ops T Q n (listed.setIfInBounds i ad)) s->Nr P E kp ops T Q (n+1) listed s:=by
 intro n;have m:∀ (listed),i∈av .any ops listed->listed.getD i ab=ab:=by intro listed c;have N:=(mem_ready.1 c).1;grind
 have t:∀ (listed),Closed ops listed->i∈av .any ops listed->∀ j,j∈av .any ops listed->D j=ab:=by intro listed u c j d;have⟨_,v,a,I⟩:=mem_ready.1 d;cases G:D j;rfl;exact(sU u (m listed c) (J j G) (λo K e L M=>by grind)).elim
 induction n with
 |zero=>intro listed s u c B h;refine⟨λx=>(by rw[x]at c;cases c),λj d v a=>?_⟩;by_cases b:j=i;subst b;rw[l]at a;cases a;exact h;have⟨w,H,_⟩:=fS C h;have:=ready_mono d b;rw[H]at this;cases this|succ n ih=>
  intro listed s u c B h;refine⟨λx=>(by rw[x]at c;cases c),λj d v a=>?_⟩;by_cases b:j=i;subst b;rw[l]at a;cases a;exact h;have r:=(mem_ready.1 d).1;have⟨g,F⟩:=B j v a b r (t listed u c j d);have H :=
   V4 (λw f=>f.2 j (ready_mono d b) v a) h
  have h2:=iN F g H;refine V4 (λw f=>?_) h2;refine ih (listed.setIfInBounds j ad) w (u.set d) (ready_mono c (FS b)) ?_ ?_;intro k ok y z p A;refine B k ok y z ?_ A;by_cases q:k=j;subst q;exact r;rw[getD_set_ne ad (FS q)]at p;exact p;rw[lR _ _ b];exact f
def N6(ops:Array Oper)(AX:Nat->Md)(c:NH)(i:Nat)(o:Oper):List Nat->List Nat->Bool
 |_,[]=>ad
 |D,j::rest=>match ops[j]? with
  |none=>ab
  |some oj=>cond (oj.after.toList.any λe=>au .any e&&(bn e.on i||D.any (bn e.on))) (N6 ops AX c i o (j::D) rest)
   (Ot c (Yo (AX j) oj)&&(o.apart ops oj&&N6 ops AX c i o D rest))
def RM(ops:Array Oper)(AX:Nat->Md):List Nat->List Nat->Bool
 |_,[]=>ad
 |done,i::rest=>match ops[i]? with
  |none=>ab
  |some o=>(o.after.toList.all λe => !au .any e||done.any (bn e.on))&&(!done.any (bn i) &&
   ((match Yo (AX i) o with
    |.W=>rest.all λj=>match ops[j]? with|none=>ab|some oj=>oj.after.toList.any λe=>au .any e && !done.any (bn e.on)
    |c=>N6 ops AX c i o [] rest)&&RM ops AX (i::done) rest))
def I0{l:List Nat}{n:Nat}:l.any (bn n)=ad↔n∈l:=by simp
def Li{AX c i o}:∀ rest D,(∀ k∈D,ME ops i k)->N6 ops AX c i o D rest=ad ->
  ∃ D':Nat->Bool,(∀ k,D' k=ad->ME ops i k)/\(∀ k∈D,D' k=ad)/\∀ j∈rest,D' j=ab->∀ oj,ops[j]?=ae oj->Ot c (Yo (AX j) oj)=ad/\o.apart ops oj=ad
 |[],D,hD,_=>⟨λk=>D.any _,λk b=>hD k (I0.1 b),λk b=>I0.2 b,λj t=>by grind⟩|j::rest,D,hD,h=>by
  rw[N6]at h;rcases d:ops[j]? with _|oj;grind;rw[d]at h;simp only at h;cases a:(oj.after.toList.any _);rw[a,cond_false]at h;simp only[BP]at h;have⟨g,p,h⟩:=h;have⟨D',q,h2,r⟩:=Li rest D hD h;refine⟨D',q,h2,λk b l ok f=>?_⟩;rcases BY.1 b with rfl|b;rw[d]at f;cases f;exact⟨g,p⟩;exact r k b l ok f;rw[a]at h;have s:ME ops i j:=by rw[FX]at a;have⟨e,u,m⟩:=a;simp only[BP,F_]at m;rcases m.2 with n|n;exact .on d zG m.1 (QM n);exact .via d zG m.1 (hD _ (I0.1 n))
  have⟨D',q,h2,r⟩:=Li _ (j::D) (λk b=>by grind) h
  refine⟨D',q,λk b=>h2 k (FR _ b),λk b l=>?_⟩;rcases BY.1 b with rfl|b;grind;grind
def ListedL(ops:Array Oper)(done:List Nat)(listed:Array Bool):Prop:=listed.size=ops.size/\∀ j,j<ops.size->(listed[j]?=ae ad↔j∈done)/\(listed[j]?=ae ab↔j∉done)
def ListedL.getD{done listed}(h:ListedL ops done listed){j}(a:j<ops.size)(b):(listed.getD j b=ad↔j∈done):=by have⟨c,h2⟩:=h.2 j a;rw[HA];grind
def ListedL.next{done i listed}(h:ListedL ops done listed)(hi:i<ops.size):ListedL ops (i::done) (listed.setIfInBounds i ad):=by refine⟨by rw[PW];exact h.1,λj a=>?_⟩;rw[SW];have⟨b,h2⟩:=h.2 j a;grind
def Jz{T Q}:∀ rest done listed s,(∀ k∈done,k<ops.size)->(∀ j,j<ops.size->j∈done\/j∈rest)->ListedL ops done listed->Closed ops listed->RM ops T.AX done rest=ad ->
  Nl P E kp ops T Q rest s->Nr P E kp ops T Q rest.length listed s
 |[],done,listed,s,_,hall,hL,_,_,h=>by
  refine⟨?_,h⟩;rw[OQ];intro j z;have⟨O,o,M,_⟩:=mem_ready.1 z;have l:j<ops.size:=by rw[DB]at M;exact M.1
  have H:j∈done:=by rcases hall j l with q|q;exact q;cases q
  have:=(hL.getD l ad).2 H;rw[this]at O;cases O
 |i::rest,done,listed,s,hdone,hall,hL,hc,hok,h=>by
  rw[RM]at hok;cases b:ops[i]? with|none=>rw[b]at hok;cases hok|some o=>
  rw[b]at hok;simp only[BP]at hok;have⟨B,n,m,v⟩:=hok;have w:i<ops.size:=by rw[DB]at b;exact b.1
  have n:i∉done:=by intro G;rw[I0.2 G]at n;cases n
  simp only[Nl,b]at h;have C:i∈av .any ops listed:=by
   refine mem_ready.2 ⟨?_,o,b,λe I J=>?_⟩
   .cases G:listed.getD i _;rfl;exact absurd ((hL.getD w ad).1 G) n
   rw[ER]at B;have:=B e (zu I);rw[J]at this;simp only[GR,CH]at this;have N:=I0.1 this;by_cases p:e.on<ops.size;exact(hL.getD p _).2 N;exact absurd (hdone _ N) p
  have U:∀ A,Nl P E kp _ T Q _ A->Nr P E kp _ T Q _ _ A:=λA F=>Jz _ _ _ A (λk y=>by
   rcases BY.1 y with rfl|y;exact w;exact hdone k y) (λj z=>by
   rcases hall j z with q|q;exact .inl (FR _ q);rcases BY.1 q with rfl|q;exact .inl (GA ..);exact .inr q) (hL.next w) (hc.set C) v F
  have R:=V4 U h;have c:∀ j u,ops[j]?=ae u->j≠i->listed.getD j ad=ab->j∈rest:=by
   intro j u a f d;have l:j<ops.size:=by rw[DB]at a;exact a.1
   rcases hall j l with q|q;rw[(hL.getD l ad).2 q]at d;cases d;exact(BY.1 q).resolve_left f
  by_cases K:Yo (T.AX i) o=.W;rw[K]at m;simp only at m;refine⟨λB=>(by rw[B]at C;cases C),λj z u a=>?_⟩;by_cases f:j=i;subst f;rw[b]at a;cases a;exact R;exfalso;have⟨d,S,r,x⟩:=mem_ready.1 z;rw[a]at r;cases r;rw[ER]at m;have:=m j (c j u a f d);rw[a]at this;simp only[FX,BP]at this;have⟨e,I,J,t⟩:=this;have g:=x e (zu I) J;by_cases p:e.on<ops.size;have:=I0.2 ((hL.getD p ab).1 g);rw[this]at t;cases t;rw[HA,lM (by rw[hL.1];omega)]at g;simp at g;have V:N6 ops T.AX (Yo (T.AX i) o) i o [] rest=ad:=by revert m K;cases Yo (T.AX i) o<;>first|exact λh _=>h|(intro _ h;exact absurd rfl h)
  have⟨D,Y,_,X⟩:=Li rest [] (λk y=>by cases y) V;exact nQ b K Y rest.length listed s hc C (λj u a f d L=>X j (c j u a f d) L u a) R
def uc{ops Q T}(o k s)(h:Xx P E kp ops Q T k [o] s):Ow P E kp ops (T.AX k) (T.vs k) o Q s:=by
 have M:∀ s',Xx P E kp ops Q T (k+1) [] s'->Q s':=λ_ h=>h;unfold Ow;simp only[Xx]at h;cases K:Yc _ _ o with
 |none=>rw[K]at h;exact h.elim|some b=>
  rw[K]at h;cases b with
  |false=>exact h|true=>
   simp only[Nn]at h⊢;split at h
   .rename_i f y G hop;have⟨D,I,w,pos,after,p⟩:=o;simp only at hop;subst hop;cases n:T.AX k with
    |any=>rw[n,XJ]at h;have A:=Wa (λv z i=>Il.1 i) h;unfold Wm;exact A|keep=>rw[n,ZL]at h;have A:=Wa (λv z i=>Il.1 i) h;unfold Wm;exact A|CO=>rw[n]at h;have⟨g,h2⟩:=h;unfold Kt at g;unfold Wm;split at g;rename_i C first F B;simp only[Yo,B];exact⟨g,h2⟩;exact g.elim
    |pure=>rw[n]at h;have⟨g,h2⟩:=h;unfold Kt at g;unfold Wm;split at g;rename_i C first F B;simp only[Yo,B];exact⟨g,h2⟩;exact g.elim
    |own=>rw[n]at h;have⟨g,h2⟩:=h;unfold Kt at g;unfold Wm;split at g;rename_i C first F B;simp only[Yo,B];exact⟨g,h2⟩;exact g.elim
   .rename_i t x hop;have⟨D,I,w,pos,after,p⟩:=o;simp only at hop;subst hop;cases n:T.AX k with
    |CO=>rw[n,W1,I8]at h;unfold Wm;simp only[Yo,Ha];cases L:Uc P t _ with|none=>rw[L]at h;exact h.elim|some u=>rw[L]at h;exact h
    |keep=>rw[n,W2]at h;unfold Wm;simp only[Yo,Ha];exact h|pure=>rw[n,WY]at h;unfold Wm;exact h|own=>rw[n,XO]at h;unfold Wm;exact h|any=>rw[n,XS]at h;unfold Wm;exact h
   .rename_i hne hnl;have⟨g,h2⟩:=h;have e:M3 o=ad->Y1 P E s o λv z=>Q (AS.put {s with H:=z} o.dst v):=λJ=>
     Wa (λv z i=>(by rw[J]at i;exact i)) h2
    have j:M3 o=ab->Y1 P E s o λv z=>KpH P kp z/\Q (AS.put {s with H:=z} o.dst v):=λJ=>
     Wa (λv z i=>(by rw[J]at i;exact Il.1 i)) h2
    have⟨D,I,w,pos,after,p⟩:=o;unfold Wm;cases I<;>try(first|exact e rfl|exact j rfl|exact absurd rfl (hnl _ _))
    case makeMap t r=>
     cases r with|some r=>exact j rfl|none=>have⟨d,l,a⟩:=g rfl;simp only at l;subst l;exact⟨a,e rfl⟩
    have⟨d,l,a⟩:=g rfl;simp only at l;subst l;exact⟨a,e rfl⟩;have⟨d,l,a⟩:=g rfl;simp only at l;subst l;exact⟨a,e rfl⟩;have⟨d,l,a⟩:=g rfl;simp only at l;subst l;exact⟨a,e rfl⟩;have⟨d,l,a⟩:=g rfl;simp only at l;subst l;exact⟨a,e rfl⟩
    .rename_i c;have⟨q,y,G⟩:=c;cases q with|value f=>exact absurd rfl (hne f y G)|invoke r m=>exact j rfl|builtin b=>cases b<;>first|exact e rfl|exact j rfl
def KO(P:Program)(E:BX)(kp:FP)(ops:Array Oper)(Q:AS->Prop)(T:MK):List Nat->AS->Prop
 |[],s=>Q s|i::rest,s=>match ops[i]? with|some o=>Xx P E kp ops (KO P E kp ops Q T rest) T i [o] s|none=>False
def Dp{Q T}:∀ l s,KO P E kp ops Q T l s->Nl P E kp ops T Q l s
 |[],s,h=>h|i::rest,s,h=>by rw[KO]at h;rw[Nl];rcases c:ops[i]? with _|o;grind;rw[c]at h;exact V4 (λb a=>Dp rest b a) (uc o i s h)
@[go_sem] def AEI{Q T}(s):KO P E kp ops Q T [] s=Q s:=rfl
def UM(o:Option Oper)(K:Oper->Prop):Prop:=match o with|some x=>K x|none=>False
@[go_sem] def AEJ(x K):UM (ae x) K=K x:=rfl
@[congr] def AC_{o o' K}(h:o=o'):UM o K=UM o' K:=by rw[h]
@[go_sem] def AEH{Q T}(l i rest s):KO P E kp ⟨l⟩ Q T (i::rest) s=UM (l[i]?) λo=>Xx P E kp ⟨l⟩ (KO P E kp ⟨l⟩ Q T rest) T i [o] s:=by rw[KO];simp only[LH];cases l[i]? <;> rfl
end
section
variable{P:Program}{E:BX}{ops:Array Oper}{kp:FP}
def RG(ops:Array Oper)(n:Nat):Bool:=
 (List.range n).all (λk=>(List.range (n+1)).any λj=>aT k j&&(match ops[j]? with|some o=>o.after.toList.any λe=>au .any e&&bn e.on k|none=>ab)) &&
 (List.range ops.size).all λj=>match ops[j]? with|some o=>(match o.guard with|some (g,_)=>Nat.ble n j||aT g n|none=>ad)&&(o.after.toList.all λe => !au .any e||aT e.on j)&&(Nat.ble j n||o.after.toList.any λe=>au .any e&&bn e.on (j-1))|none=>ad
structure LD(ops:Array Oper)(n:Nat):Prop where
 lt:n<ops.size
 pre:∀ k,k<n->∃ j o,k<j/\j<=n/\ops[j]?=ae o/\∃ e∈o.after,au .any e=ad/\e.on=k
 RV:∀ j o,ops[j]?=ae o->∀ e∈o.after,au .any e=ad->e.on<j
 gd:∀ j o g b,j<n->ops[j]?=ae o->o.guard=ae (g,b)->g<n
 lG:∀ j o,n<j->ops[j]?=ae o->∃ e∈o.after,au .any e=ad/\e.on=j-1
def LD.of{n}(h:RG ops n=ad)(q:aT n ops.size=ad):LD ops n:=by
 unfold RG at h;rw[BP]at h;have⟨p,h2⟩:=h;rw[ER]at p h2;have d:∀ j o,ops[j]?=ae o->((match o.guard with|some (g,_)=>Nat.ble n j||aT g n|none=>ad)=ad/\(o.after.toList.all λe => !au .any e||aT e.on j)=ad)/\(Nat.ble j n||o.after.toList.any λe=>au .any e&&bn e.on (j-1))=ad:=λj o a=>by have f:=(DB.1 a).1;have:=h2 j (DC.2 f);rw[a]at this;simpa only[BP]using this
 refine⟨by rwa [IR]at q,λk r=>?_,λj o a e i t=>?_,λj o g b f a s=>?_,λj o f a=>?_⟩;have:=p k (DC.2 r);rw[FX]at this;have⟨j,f,m⟩:=this;rw[BP,IR]at m;have⟨m,l⟩:=m;split at l;rename_i o a;rw[FX]at l;have⟨e,i,c⟩:=l;rw[BP,Nat.beq_eq]at c;exact⟨j,o,m,by have:=DC.1 f;omega,a,e,zu i,c.1,c.2⟩;cases l;have:=(d j o a).1.2;rw[ER]at this;have:=this e (zu i);rw[t,GR,CH,IR]at this;exact this;have:=(d j o a).1.1;rw[s]at this;simp only[F_,WM,IR]at this;omega;have:=(d j o a).2;rw[F_]at this;rcases this with this|this;rw[WM]at this;omega;rw[FX]at this;have⟨e,i,c⟩:=this;rw[BP,Nat.beq_eq]at c;exact⟨e,zu i,c.1,c.2⟩
def Upto(ops:Array Oper)(k:Nat)(L:Array Bool):Prop:=(∀ i,i<k->L.getD i ab=ad)/\∀ i,k<=i->i<ops.size->L.getD i ad=ab
def LD.all{n}(h:LD ops n){L}(i:Closed ops L)(hi:n∈av .any ops L):∀ d k,n-k=d->k<n->L.getD k ab=ad:=by
 have⟨_,on,b,a⟩:=mem_ready.1 hi;intro d
 induction d using Nat.strongRecOn with|_ d ih=>intro k p f;obtain⟨j,o,q,h2,c,e,g,l,rfl⟩:=h.pre k f;by_cases m:j=n;grind;have:=ih _ zo j rfl zo;exact i j o c this e g l
def LD.ready_upto{n k}(h:LD ops n)(p:n<=k){L}(c:Upto ops k L){i}(hi:i∈av .any ops L):i=k:=by have⟨s,o,d,a⟩:=mem_ready.1 hi;have m:=(DB.1 d).1;by_cases b:i<k;have:=c.1 i b;grind;by_cases f:k<i;have⟨e,j,l,g⟩:=h.lG i o zo d;have r:=a e j l;have q:=c.2 (i-1) zo zo;grind;omega
def Upto.set{k L}(h:Upto ops k L)(a:k<L.size):Upto ops (k+1) (L.setIfInBounds k ad):=by refine⟨λi b=>?_,λi c h2=>?_⟩;by_cases e:i=k;simp_all;rw[getD_set_ne _ (FS e)];exact h.1 i zo;rw[getD_set_ne _ zo];exact h.2 i zo h2
def pC{n τ o}(a:∀ g b,o.guard=ae (g,b)->g<n):Yc (ops.toList.take n).toArray τ o=Yc ops τ o:=by unfold Yc;grind
def qV{n AX v o K s}(a:∀ g b,o.guard=ae (g,b)->g<n)(h:Ow P E kp (ops.toList.take n).toArray AX v o K s):Ow P E kp ops AX v o K s:=by unfold Ow at *;rw[pC a]at h;exact h
def jQ{R}(y:∀ ch a w,Pan E ch a w->R (.panic ch) a w)(p:(ops.all (W4 E.n))=ad){i o}(t:ops[i]?=ae o){s a w}(r:Ng E s a w){N:AS->Prop}{K}(f:match Yc ops s.τ o with|some ad=>Y1 P E s o λv H'=>N (AS.put {s with H:=H'} o.dst v)|some ab=>N (s.put o.dst (.tuple []))|none=>False)(q:∀ s a w,Ng E s a w->N s->K a w):wpOpIn E.rk.F 0 P ops R i K a w:=by
 have⟨X,j⟩:=r;have e:∀ (k) d,k∈ops->k.dst=ae d->d<E.n:=by intro k d u c;rw[KF]at p;have:=p k u;unfold W4 at this;grind
 have h:o∈ops:=zG;unfold wpOpIn;simp only[t];rcases g:Yc ops s.τ o with _|b;grind;have x:=Uw j g e;rw[g]at f;rw[x];cases b;refine⟨λ_ _=>trivial,?_⟩;refine q _ _ _ ⟨X,?_⟩ f;have:=j.step (GF j.go.BJ) (.tuple #[] [] rfl (λi z h2=>by simp at h2)) (λd c=>e o d h c);rw[j.hw]at this;exact this;refine Ol _ (Fa f) (Oper.wp_mono ?_ (Ia j (λd c=>e o d h c) f y));rintro A w' ⟨v,H',m,l⟩;exact q _ _ _ l m
def cv{n}(h:LD ops n){K R}(u:∀ ch a w,Pan E ch a w->R (.panic ch) a w)(q:∀ s a w,Ng E s a w->K s->R .normal a w)(t:(ops.all (W4 E.n))=ad):∀ r k fuel L s a w,n<k->k+r=ops.size->r<=fuel->L.size=ops.size->Upto ops k L->Ng E s a w->Yx P E ops K (ops.toList.drop k) s->wpAnyIn E.rk.F 0 P .any ops R fuel L a w
 |0,k,fuel,L,s,a,w,hk,hsz,_,_,hu,hs,ha=>by
  have j:av .any ops L=[]:=by rw[OQ];intro i c;have:=h.ready_upto (LL hk) hu c;have⟨_,o,d,_⟩:=mem_ready.1 c;have:=(DB.1 d).1;omega
  have v:K s:=by rw[HT (by rw[IW];omega)]at ha;exact ha
  rcases fuel with _|f;exact⟨j,q _ _ _ hs v⟩;exact⟨λ_=>q _ _ _ hs v,λi c=>by rw[j]at c;cases c⟩
 |r+1,k,fuel,L,s,a,w,hk,hsz,hf,hL,hu,hs,ha=>by
  obtain⟨f,rfl⟩:∃ f,fuel=f+1:=⟨fuel-1,zo⟩;have b:k<ops.size:=zo;have d:=PT b;have g:=mem_ready.2 ⟨hu.2 k ql b,_,d,λe y z=>hu.1 _ (h.RV _ _ d e y z)⟩;refine⟨λj=>(by rw[j]at g;cases g),λi c=>?_⟩;obtain rfl:=h.ready_upto (LL hk) hu c;have m:ops.toList.drop i=ops[i]::ops.toList.drop (i+1):=by rw[FL (by rw[IW];exact b),SY]
  rw[m]at ha;exact jQ u t d hs ha λx A w' l p=>cv h u q t r _ f _ x A w' zo zo zo (by rw[PW];exact hL) (hu.set (by rw[hL];exact b)) l p
def vA{n}(h:LD ops n)(hG:Yy E.G){T Q1 R}(hP:∀ ch a w,Pan E ch a w->R (.panic ch) a w)(hd:(ops.all (W4 E.n))=ad)(hQ:∀ fuel L s a w,ops.size-n<=fuel->L.size=ops.size->Upto ops n L->Ng E s a w->Q1 s->wpAnyIn E.rk.F 0 P .any ops R fuel L a w):∀ fuel m L1 L s a w,L.size=ops.size->L1.size=n->Closed ops L->(∀ i,i<n->L[i]?=L1[i]?)->(∀ i,n<=i->i<ops.size->L.getD i ad=ab)->ops.size-n<=m->Ng E s a w ->
   Nr P E kp (ops.toList.take n).toArray T Q1 fuel L1 s->wpAnyIn E.rk.F 0 P .any ops R (fuel+m) L a w:=by
 have y:∀ i,i<n->(ops.toList.take n).toArray[i]?=ops[i]? := λi k=>by rw[LH,OU,AF k,PU]
 have x:∀ (L1 L:Array _),L.size=ops.size->(∀ i,i<n->L[i]?=L1[i]?)->av .any (ops.toList.take n).toArray L1=[]->∀ i,i<n->L.getD i ab=ad:=by
  intro L1 L C t l i
  induction i using Nat.strongRecOn with
  |_ i ih=>
   intro k;have hLi:i<L.size:=by have:=h.lt;omega
   cases hb:L.getD i _;exfalso;have p:=PT (xs:=ops) (i:=i) zo;have:=mem_ready.2 ⟨by
    rw[HA,<- t i k,PT _];rw[HA,PT hLi]at hb;exact hb,_,(y i k).trans p,λe X hb'=>by
    have z:=h.RV _ _ p e X hb';have:=ih _ z zo;rw[HA]at this⊢;rw[<- t _ zo];exact this⟩
   rw[l]at this;cases this;rfl
 intro fuel
 induction fuel with
 |zero=>intro m L1 L s a w C Q Y t M W U O;rw[EE];exact hQ m L s a w W C ⟨x L1 L C t O.1,M⟩ U O.2|succ f ihf=>
  intro m L1 L s a w C Q Y t M W U O;by_cases l:av .any (ops.toList.take n).toArray L1=[];exact hQ _ L s a w zo C ⟨x L1 L C t l,M⟩ U (O.1 l)
  .have to1:∀ i,i<n->(i∈av .any ops L↔i∈av .any (ops.toList.take n).toArray L1):=λi k=>by rw[mem_ready,mem_ready,y i k,HA,HA,t i k];refine and_congr NJ (exists_congr λo=>⟨λq=>⟨q.1,λe c h2=>?_⟩,λq=>⟨q.1,λe c h2=>?_⟩⟩);have D:=q.2 e c h2;have z:=h.RV _ _ q.1 e c h2;rw[HA]at D⊢;rw[<- t _ zo];exact D;have D:=q.2 e c h2;have z:=h.RV _ _ q.1 e c h2;rw[HA]at D⊢;rw[t _ zo];exact D
   have⟨S,N⟩:=List.exists_mem_of_ne_nil _ l;have u:S<n:=by have⟨_,o,p,_⟩:=mem_ready.1 N;have:=(DB.1 p).1;simp at this;omega
   have r:=(to1 S u).2 N;rw[show f+1+m=(f+m)+1 by omega];refine⟨λh0=>(by rw[h0]at r;cases r),λi k=>?_⟩;have I:∀ (j) (L:Array Bool),L.getD j ad=ab->L.getD j ab=ad->False:=λj L c h2=>by simp only[HA]at c h2;rcases V:L[j]? with _|b;rw[V]at c;simp at c;rw[V]at c h2;simp at c h2;rw[c]at h2;cases h2
   have A:i<n:=by rcases Nat.lt_trichotomy i n with q|q|q;exact q;subst q;exact(I S L (mem_ready.1 r).1 (h.all Y k _ S rfl u)).elim;exfalso;have⟨_,o,p,B⟩:=mem_ready.1 k;have K:=(DB.1 p).1;have⟨e,c,h2,D⟩:=h.lG i o q p;have h4:=B e c h2;rw[D]at h4;exact I (i-1) L (M (i-1) zo zo) h4
   have⟨_,o,p,_⟩:=mem_ready.1 k;have d:=qV (λg b V=>h.gd i o g b A p V) (O.2 i ((to1 i A).1 k) o ((y i A).trans p));have J:match Yc ops s.τ o with|some ad=>Y1 P E s o λv H'=>Nr P E kp (ops.toList.take n).toArray T Q1 f (L1.setIfInBounds i ad) (AS.put {s with H:=H'} o.dst v)|some ab=>Nr P E kp (ops.toList.take n).toArray T Q1 f (L1.setIfInBounds i ad) (s.put o.dst (.tuple []))|none=>False:=by unfold Ow at d;rcases hw:Yc ops s.τ o with _|b;rw[hw]at d;exact d.elim;rw[hw]at d;cases b;exact d;exact Hr hG d
   refine jQ hP hd p U J λs' a' w' K ha'=>ihf m _ _ s' a' w' (by rw[PW];exact C) (by rw[PW];exact Q) (Y.set k) (λj hj=>?_) (λj c h2=>?_) W K ha';rw[SW,SW,t j hj];have c:i<L.size:=by have:=h.lt;omega
   have h2:i<L1.size:=zo;split<;>simp[c,h2];rw[getD_set_ne ad zo];exact M j c h2
def Bx{id Q s}(n T)(M:P.follows .mixedOrders=ad)(hG:Yy E.G)(H:(ops.all (W4 E.n))=ad)(hl:RG ops n=ad)(hn:aT n ops.size=ad)(l:∀ hlen:(ops.toList.take n).length=n,Nr P E kp (ops.toList.take n).toArray T (λs1=>∃ o,ops[n]?=ae o/\HandX P E ops (Post E Q) o s1 λs2=>Yx P E ops (Q .normal) (ops.toList.drop (n+1)) s2) n (bm n ab) s):AW P E (.region id ops ad) Q s:=by
 have q:=LD.of hl hn;intro a w hs;refine wpIn_region_any M ?_;have K:Ng E s a {w with drawn:=w.drawn+1}:=by have⟨X,b⟩:=hs;have F:=P' b.go.BJ (w.drawn+1);refine⟨{X with w:={X.w with drawn:=w.drawn+1} },by rw[b.hw],b.on_ F,b.df.go b.go.BJ F,b.sz,λt=>(b.tm t).mono F.le,λg=>(b.gl g).go b.go.BJ F⟩
 have hlen:(ops.toList.take n).length=n:=by rw[CZ,IW];have:=q.lt;omega
 have m:∀ (W) (k),Closed W (bm k ab):=by intro W k2 k o _ x;simp only[HA,OO]at x;split at x<;>simp at x
 have l:=l hlen;have p:=vA (R:=Post E Q) q hG (λV a w h=>.inr ⟨V,rfl,h⟩) H (λr L s1 a1 w1 hf S D J hq=>?_) n _ _ (bm ops.size ab) s a _ zS zS (m _ _)
  (λi O=>by have:=q.lt;rw[OO,OO,AF zo,AF O]) (λi U h2=>by simp[h2]) ql K l
 have:=q.lt;rw[show n+(ops.size-n)=ops.size by omega]at p;exact p
 .have v:=q.lt;obtain⟨f,rfl⟩:∃ f,r=f+1:=⟨r-1,zo⟩;have⟨o,z,y⟩:=hq;have A:=mem_ready.2 ⟨D.2 n ql v,_,z,λe he hb=>D.1 _ (q.RV _ _ z e he hb)⟩;refine⟨λhr=>(by rw[hr]at A;cases A),λi O=>?_⟩;obtain rfl:=q.ready_upto ql D O;have next:∀ s2 I B,Ng E s2 I B->Yx P E _ _ _ s2->wpAnyIn _ 0 P _ _ (Post E Q) f (L.setIfInBounds i ad) I B:=λs2 I B h2 x=>
   cv q (λV a w h=>.inr ⟨V,rfl,h⟩) (λs a w U h2=>.inl ⟨s,U,h2⟩) H (ops.size-(i+1)) (i+1) f _ s2 I B (GH _) zo zo (by rw[PW];exact S) (D.set zo) h2 x
  have⟨X,b⟩:=J;have Y:=b.hw;subst Y;have c:∀ (C) d,C∈ops->C.dst=ae d->d<E.n:=by intro C d M j;rw[KF]at H;have:=H C M;unfold W4 at this;rw[j]at this;simpa using this
  have N:o∈ops:=by rw[DB]at z;obtain⟨v,rfl⟩:=z;exact MB v
  unfold wpOpIn;simp only[z];rcases y with ⟨u,y⟩|⟨u,y⟩
  .rw[Uw b u c];simp only[EN];refine Oper.wpIn_mono ?_ (y X a1 b);rintro a' w' ⟨s2,h2,x⟩;exact next _ _ _ h2 x
  rw[Uw b u c];simp only[IP,HD];refine⟨λ_ _=>trivial,next _ _ _ ⟨X,?_⟩ y⟩;exact b.step (GF b.go.BJ) (.tuple #[] [] rfl (λi U h2=>by simp at h2)) (λd j=>c o d N j)
def Bw{id Q s}(n T)(f:P.follows .mixedOrders=ad)(p:Yy E.G)(l:(ops.all (W4 E.n))=ad)(g:RG ops n=ad)(e:aT n ops.size=ad)(a:Hq (ops.toList.take n).toArray T.AX 0 (ops.toList.take n)=ad)(h:Xx P E [] (ops.toList.take n).toArray (λs1=>∃ o,ops[n]?=ae o/\HandX P E ops (Post E Q) o s1 λs2=>Yx P E ops (Q .normal) (ops.toList.drop (n+1)) s2) T 0 (ops.toList.take n) s):AW P E (.region id ops ad) Q s:=by
 refine Bx (kp:=[]) n T f p l g e λb=>?_;have d:(ops.toList.take n).toArray.size=n:=zG;have m:Closed (ops.toList.take n).toArray (bm n ab):=by intro k o _ i;simp only[HA,OO]at i;grind
 have q:=Do _ 0 s (λj=>by grind) h;have c:=Lz _ 0 _ s (λk=>zS) ⟨by grind,λj r=>by simp_all⟩ m a q;grind
def pf{id Q s}(n IB kp T)(i:P.follows .mixedOrders=ad)(t:Yy E.G)(q:(ops.all (W4 E.n))=ad)(m:RG ops n=ad)(g:aT n ops.size=ad)(a:RM (ops.toList.take n).toArray T.AX [] IB=ad)(e:(List.range n).all (λj=>IB.any (bn j))=ad)(l:bn IB.length n=ad)(h:KO P E kp (ops.toList.take n).toArray (λs1=>∃ o,ops[n]?=ae o/\HandX P E ops (Post E Q) o s1 λs2=>Yx P E ops (Q .normal) (ops.toList.drop (n+1)) s2) T IB s):AW P E (.region id ops ad) Q s:=by
 refine Bx (kp:=kp) n T i t q m g λb=>?_;have f:(ops.toList.take n).toArray.size=n:=by simp_all
 have r:Closed (ops.toList.take n).toArray (bm n ab):=by intro k o _ c;simp only[HA,OO]at c;grind
 have d:=Jz _ [] _ s (λk c=>by grind) (λj p=>.inr (by simp_all)) ⟨by simp_all,λj p=>by grind⟩ r a (Dp IB s h)
 simp_all
