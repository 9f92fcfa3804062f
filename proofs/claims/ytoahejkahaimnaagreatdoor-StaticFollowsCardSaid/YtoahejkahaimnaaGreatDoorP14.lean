/- A part. No condition. -/
import Derived.Test.YtoahejkahaimnaaGreatDoorP13
set_option linter.all false
namespace Go.Hs
section
variable{P:Program}{E:Ent}{ops:Array Oper}{kp:Kps}
def hrel(P:Program)(kp:Kps)(c:Cls)(H H':Heap):Prop:=
 match c with
 |.P|.R|.L|.B=>H'=H
 |.A=>H'=H\/∃ d x,H d=.dead/\H'=Z3 H d x
 |.W=>H'=H\/KpH P kp H'
theorem hrel.keeps{c:Cls}{H H':Heap}(h:hrel P kp c H H')(a:KpH P kp H):KpH P kp H':=by
 cases c
 case A=>
  rcases h with h|⟨d,x,b,h⟩
  grind
  rw[h];exact a.new b x
 case W=>
  rcases h with h|h
  grind
  exact h
 all_goals exact(show H'=H from h) ▸ a
theorem Pw{bor:Md}{v u:V}{o:Oper}{s s':AS}(g:s'.H=s.H)(a:∀ x∈o.op.operands,s'.ev E x=s.ev E x)(n:Zz ops s'.τ o=Zz ops s.τ o)(h:Ow P E kp ops bor v o s u):
  Ow P E kp ops bor v o s' u:=by
 unfold Ow at *;rw[n];have e:=Mg (P:=P) a
 split at h
 .rename_i hwt
  obtain⟨r,k,j,pos,after,i⟩:=o
  cases k<;>(try simp only[Op.operands]at a)<;>(try simp only at h⊢)<;>try(rw[e];exact h)
  case load t x=>rw[a x zS,g];exact h
  case lookup t m x ok=>rw[a x zS,a m zS,g];exact h
  case call c=>
   obtain⟨b,d,w⟩:=c;simp only[Call.operands]at a
   cases b<;>(try simp only at h⊢)<;>try(rw[e];exact h)
   rename_i f;have q:s'.ev E f=s.ev E f:=a f zS;have p:d.toList.map (s'.ev E)=d.toList.map (s.ev E):=List.map_congr_left (λx l=>a x (by simp;exact .inr (zu l)));rw[q,p,g];exact h
 all_goals(· exact h)
theorem Z4v{H:Heap}{d:Nat}(hd:H d=.dead)(x:AObj){t:TypeId}{m k:V}{ok:Bool}{u:V}(h:Ty P H t m k ok=some u):Ty P (Z3 H d x) t m k ok=some u:=by
 unfold Ty at *
 cases m with
 |mref o b=>
  simp only at h⊢
  have a:o≠d:=λe=>by grind
  rw[Zk _ _ a];exact h
 |_=>exact h
def MkOk(mk:Nat->AObj):Prop:=(∃ cs,∀ g,mk g=.cells .new g 0 cs)\/∃ lo,∀ g,mk g=.mp lo g [] []
theorem Zm6{mk:Nat->AObj}(h:MkOk mk){H:Heap}{o g off:Nat}{t:TypeId}:Xt P (Z3 H o (mk (g+1))) t (.ptr o g off)=none:=by
 rcases h with ⟨b,h⟩|⟨a,h⟩<;>simp[Xt,h]
theorem Zxg{mk:Nat->AObj}(c:MkOk mk){H:Heap}{d j:Nat}{t:TypeId}{m k:V}{ok:Bool}{u:V}(i:∀ g,∃ u,Ty P (Z3 H d (mk g)) t m k ok=some u)(h:Ty P (Z3 H d (mk j)) t m k ok=some u):Ty P H t m k ok=some u:=by
 cases m with
 |mref o b=>
  have a:o≠d:=λe=>by
   obtain⟨l,f⟩:=i (b+1);unfold Ty at f;simp only at f;rw[e,Ye]at f
   rcases c with ⟨p,c⟩|⟨n,c⟩
   grind
   grind
  unfold Ty at h⊢;simp only at h⊢;rw[Zk _ _ a]at h;exact h
 |_=>exact h
theorem Zdu{bor:Md}{v u:V}{o:Oper}{s s':AS}{c:Cls}(i:(Z9 bor o=.P)\/(Z9 bor o=.R/\(c=.P\/c=.R\/c=.L\/c=.B\/c=.A))\/(Z9 bor o=.L)\/(Z9 bor o=.B/\(c=.P\/c=.R\/c=.L\/c=.B)))
  (p:hrel P kp c s.H s'.H) (k:∀ x∈o.op.operands,s'.ev E x=s.ev E x) (C:Zz ops s'.τ o=Zz ops s.τ o) (h:Ow P E kp ops bor v o s u):Ow P E kp ops bor v o s' u:=by
 rcases i with i|⟨i,D⟩|i|⟨i,D⟩
 have M:Ow P E kp ops bor v o ⟨s.τ,s'.H⟩ u:=by
  unfold Ow at *
  split at h
  .rename_i l
   have q:Zz ops (⟨s.τ,s'.H⟩:AS).τ o=some true:=l;rw[q];simp only
   have I:Jx P (AS.ev E ⟨s.τ,s'.H⟩) o=Jx P (s.ev E) o:=Mg λx _=>by cases x<;>rfl
   obtain⟨J,G,z,pos,after,w⟩:=o
   cases G<;>(try simp only[Z9,reduceCtorEq]at i)<;>(try simp only at h⊢)<;>try(rw[I];exact h)
   case load t x=>
    have S:AS.ev E ⟨s.τ,s'.H⟩ x=s.ev E x:=by cases x<;>rfl
    rw[S]
    cases bor with
    |lend=>exact h
    |keep=>cases i
    |pure=>cases i
    |own=>cases i
    |any=>cases i
   case call c'=>
    obtain⟨j,n,K⟩:=c'
    cases j<;>(try simp only at h⊢)<;>try(rw[I];exact h)
    rename_i f
    have S:AS.ev E ⟨s.τ,s'.H⟩ f=s.ev E f:=by cases f<;>rfl
    have h2:n.toList.map (AS.ev E ⟨s.τ,s'.H⟩)=n.toList.map (s.ev E):=List.map_congr_left (λx _=>by cases x<;>rfl);rw[S,h2]
    cases bor with
    |any=>simp at i
    |keep=>simp at i
    |lend=>simp at i
    |pure=>exact h
    |own=>exact h
  rename_i l;have q:Zz ops (⟨s.τ,s'.H⟩:AS).τ o=some false:=l;rw[q];exact h;exact h.elim
 refine Pw (s:=⟨s.τ,s'.H⟩) rfl (λx X=>?_) C M;rw[k x X]
 cases x<;>rfl
 have F:s'.H=s.H\/∃ d x,s.H d=.dead/\s'.H=Z3 s.H d x:=by
  rcases D with rfl|rfl|rfl|rfl|rfl
  exact .inl p;exact .inl p;exact .inl p;exact .inl p;exact p
 rcases F with p|⟨d,x,T,p⟩
 exact Pw p k C h;unfold Ow at *;rw[C]
 split at h
 .rename_i l
  clear l C;obtain⟨J,G,z,pos,after,w⟩:=o
  cases G<;>(try simp only[Z9,reduceCtorEq]at i)
  case makeMap t r=>cases r<;>cases i
  case load t y=>
   simp only[Op.operands]at k;simp only at h⊢;rw[k y zS,p]
   have Y:∀ (H:Heap) (a:V),ldR P kp bor v H t a u↔Xt P H t a=some u:=λH a=>by
    cases bor with
    |lend=>cases i
    |keep=>cases i
    |pure=>exact Iff.rfl
    |own=>exact Iff.rfl
    |any=>exact Iff.rfl
   rw[Y]at h⊢;unfold Xt at *
   split at h
   rename_i W g U hy
   split at h
   rename_i c1 g1 fz cs N
   have O:W≠d:=λe=>by rw[e,T]at N;cases N
   rw[Zk _ _ O,N];exact h;simp at h;exact h
  case lookup t m y ok=>
   simp only[Op.operands]at k;simp only at h⊢;rw[k y zS,k m zS,p];exact Z4v T x h
  case call c'=>
   obtain⟨j,n,K⟩:=c';cases j
   simp only at i;split at i<;>cases i
   cases i
   rename_i b;cases b<;>cases i
 exact h;exact h.elim;unfold Ow at *;rw[C]
 split at h
 .rename_i l
  clear l C;obtain⟨J,G,z,pos,after,w⟩:=o
  cases G<;>(try simp only[Z9,reduceCtorEq]at i)
  case makeMap t r=>cases r<;>cases i
  case load t y=>
   simp only[Op.operands]at k;simp only at h⊢;rw[k y zS]
   cases bor with
   |lend=>cases i
   |pure=>cases i
   |own=>cases i
   |any=>cases i
   |keep=>exact⟨⟨h.1.1,p.keeps h.1.2⟩,h.2⟩
  case call c'=>
   obtain⟨j,n,K⟩:=c';cases j
   simp only at i;split at i<;>cases i
   cases i
   rename_i b;cases b<;>cases i
 exact h;exact h.elim
 have Q:s'.H=s.H:=by rcases D with rfl|rfl|rfl|rfl<;>exact p
 exact Pw Q k C h
theorem Q3{bor:Md}{o:Oper}(a:Z9 bor o=.A){s:AS}{K:V->Heap->Prop}(h:Yk P E s o K):
  ∃ (d:Nat) (u:Nat->V) (mk:Nat->AObj),MkOk mk/\o.dst=some d/\(∀ g,K (u g) (Z3 s.H (E.q+d) (mk g))) /\
   ∀ (s':AS) (K':V->Heap->Prop),(∀ x∈o.op.operands,s'.ev E x=s.ev E x)->(Yk P E s' o K'↔∀ g,K' (u g) (Z3 s'.H (E.q+d) (mk g))):=by
 obtain⟨dst,U,R,pos,after,N⟩:=o
 cases U<;>(try simp only[Z9,reduceCtorEq]at a)
 case load t x=>cases bor<;>cases a
 case alloc t=>
  simp only[Yk]at h
  split at h
  rename_i z d y;refine⟨d,λg=>.ptr (E.q+d) g 0,λg=>.cells .new g 0 z.cells,.inl ⟨_,λ_=>rfl⟩,rfl,h.2,λs' K' _=>?_⟩;simp only[Yk,y];exact⟨λk=>k.2,λj=>⟨h.1,j⟩⟩;exact h.elim
 case box t x=>
  simp only[Yk]at h
  split at h
  rename_i d;refine⟨d,λg=>.ptr (E.q+d) g 0,λg=>.cells .new g 0 (s.ev E x).cells,.inl ⟨_,λ_=>rfl⟩,rfl,h.2,λs' K' v=>?_⟩;simp only[Yk];rw[v x (by simp[Op.operands])];exact⟨λk=>k.2,λj=>⟨h.1,j⟩⟩;exact h.elim
 case buildSlice t len parts=>
  simp only[Yk]at h
  split at h
  .rename_i d
   unfold Uq at h
   split at h
   case h_2=>exact h.elim
   rename_i e F
   split at h
   case h_2=>exact h.elim
   rename_i Q z i y;obtain⟨M,L,J,D⟩:=h
   split at D
   case h_2=>exact D.elim
   rename_i cs W;refine⟨d,λg=>.msl (E.q+d) g 0 len Q,λg=>.cells .new g 0 cs,.inl ⟨_,λ_=>rfl⟩,rfl,D,λs' K' v=>?_⟩
   have G:(parts.toList.map λp=>(p.1,s'.ev E p.2))=(parts.toList.map λp=>(p.1,s.ev E p.2)):=by
    apply List.map_congr_left;intro p G;rw[v p.2 (by simp[Op.operands];exact⟨p.1,zu G⟩)]
   simp only[Yk,Uq,G,F,i,y,W];exact⟨λk=>k.2.2.2,λj=>⟨M,L,J,j⟩⟩
  exact h.elim
 case makeMap t r=>
  cases r with
  |some r=>cases a
  |none=>
   simp only[Yk]at h
   split at h
   rename_i d;exact⟨d,λb=>.mref (E.q+d) b,λb=>.mp E.X0.w.heap.size b [] [],.inr ⟨_,λ_=>rfl⟩,rfl,h,λs' K' _=>Iff.rfl⟩;exact h.elim
 case makeSlice t l c=>
  simp only[Yk]at h
  split at h
  .rename_i d
   have B:∃ e k1 n k2 m,P.underlying t=some (.slice e)/\s.ev E l=.int k1 n/\s.ev E c=.int k2 m:=by
    clear a;unfold Uk at h;generalize P.underlying t=a1 at *;generalize s.ev E l=a2 at *;generalize s.ev E c=a3 at *
    split at h
    exact⟨_,_,_,_,_,rfl,rfl,rfl⟩;exact h.elim
   obtain⟨e,k1,n,k2,m,F,S,C⟩:=B;unfold Uk at h;rw[F,S,C]at h;simp only at h
   split at h
   case h_2=>exact h.elim
   rename_i Q O z i I y;obtain⟨M,L,J,D,h5,Y,X⟩:=h;refine⟨d,λg=>.msl (E.q+d) g 0 n.toNat Q,λg=>.cells .new g 0 (Vj m.toNat z.cells),.inl ⟨_,λ_=>rfl⟩,rfl,X,λs' K' v=>?_⟩;have e1:=v l (by simp[Op.operands]);have e2:=v c (by simp[Op.operands]);simp only[Yk,Uk,e1,e2,S,C,F,i,I,y];exact⟨λk=>k.2.2.2.2.2.2,λj=>⟨M,L,J,D,h5,Y,j⟩⟩
  exact h.elim
 case call c=>
  obtain⟨f,T,ats⟩:=c;cases f
  simp only at a;split at a<;>cases a
  cases a
  rename_i b;cases b<;>cases a
theorem J3{bor:Md}{v u:V}{b a:Oper}(G:b.apart ops a=true){K:AS->Prop}{s:AS}(h:Rb P E kp ops bor v a K (s.put b.dst u)):
  Rb P E kp ops bor v a (λs'=>K (s'.put b.dst u)/\hrel P kp (Z9 bor a) s.H s'.H/\Zz ops s'.τ b=Zz ops s.τ b/\∀ x∈b.op.operands,s'.ev E x=s.ev E x) s:=by
 obtain⟨D,U,M⟩:=Zai (E:=E) G;have I:=V0 s b.dst u
 have c:∀ w f,(AS.put { s with H:=f } a.dst w).put b.dst u=AS.put { (s.put b.dst u)with H:=f } a.dst w:=by
  intro w f;rw[Qp,<- M]
 have S:∀ (s:AS) (f:Heap) x,AS.ev E { s with H:=f } x=s.ev E x:=λs f x=>by rfl
 have facts:∀ w f,Zz ops (AS.put { s with H:=f } a.dst w).τ b=Zz ops s.τ b/\∀ x∈b.op.operands,(AS.put { s with H:=f } a.dst w).ev E x=s.ev E x:=by
  intro w f;obtain⟨b1,T⟩:=U { s with H:=f } w;exact⟨T,λx z=>by grind⟩
 by_cases k:Z9 bor a=.P\/Z9 bor a=.R\/Z9 bor a=.L\/Z9 bor a=.B
 rw[Rj k]at h⊢;obtain⟨r,Q,y⟩:=h;refine⟨r,Pw (s:=s.put b.dst u) I.symm (λx z=>((D s u).1 x z).symm) ((D s u).2).symm Q,?_,?_,?_⟩;have:=c r s.H
 have e:K ((s.put a.dst r).put b.dst u):=by
  have J:(s.put a.dst r).put b.dst u=(s.put b.dst u).put a.dst r:=(M s u r).symm;rw[J];exact y
 exact e;rw[V0]
 rcases k with k|k|k|k<;>rw[k]<;>rfl
 exact facts r s.H
 have l:∀ o:V->Heap->Prop,Xg P E kp bor v s a o↔(Z9 bor a=.A->∃ d,a.dst=some d/\s.H (E.q+d)=.dead)/\Yk P E s a (λu f=>(Z9 bor a=.W->KpH P kp f)/\o u f):=by
  intro o;unfold Xg
  cases j:Z9 bor a<;>simp only[j,reduceCtorEq,false_or,or_false,or_self,not_true_eq_false]at k⊢
  simp only[true_implies,false_implies,true_and]
  cases a.dst<;>simp
  simp
 have i:∀ o:V->Heap->Prop,Xg P E kp bor v (s.put b.dst u) a o↔(Z9 bor a=.A->∃ d,a.dst=some d/\s.H (E.q+d)=.dead)/\Yk P E (s.put b.dst u) a (λu f=>(Z9 bor a=.W->KpH P kp f)/\o u f):=by
  intro o;unfold Xg
  cases j:Z9 bor a<;>simp only[j,reduceCtorEq,false_or,or_false,or_self,not_true_eq_false]at k⊢
  simp only[true_implies,false_implies,true_and,I]
  cases a.dst<;>simp
  simp
 unfold Rb at h⊢;rw[(D s u).2]at h
 split at h
 rename_i F;simp only[F];rw[i]at h;rw[l];refine⟨h.1,?_⟩;have y:=h.2;rw[Zdf (s':=s) I (λx z=>(D s u).1 x z)]at y
 by_cases C:Z9 bor a=.A
 obtain⟨d,X,mk,N,O,p,n⟩:=Q3 C y;refine(n s _ (λ_ _=>rfl)).2 λg=>⟨λe=>(by rw[C]at e;cases e),?_,?_,?_⟩;rw[c];exact(p g).2;rw[V0,C];obtain⟨Y,t,m⟩:=h.1 C;rw[O]at t;cases t;exact .inr ⟨_,_,m,rfl⟩;exact facts _ _;refine Y3 (λw f p=>⟨p.1,?_,?_,?_⟩) y;rw[c];exact p.2
 have:Z9 bor a=.W:=by cases j:Z9 bor a<;>simp_all
 rw[V0,this];exact .inr (p.1 this);exact facts _ _;rename_i F;simp only[F];refine⟨?_,?_,?_⟩;have:=c (.tuple []) s.H
 have e:K ((s.put a.dst (.tuple [])).put b.dst u):=by
  have J:(s.put a.dst (.tuple [])).put b.dst u=(s.put b.dst u).put a.dst (.tuple []):=(M s u _).symm;rw[J];exact h
 exact e;rw[V0]
 cases Z9 bor a<;>simp[hrel]
 exact facts (.tuple []) s.H;exact h.elim
theorem Zef{bi o:Md}{vi vj:V}{z k:Oper}(W:z.apart ops k=true)(y:Qa (Z9 bi z) (Z9 o k)=true){K:AS->Prop}{s:AS}
  (h:Rb P E kp ops bi vi z (Rb P E kp ops o vj k K) s):Rb P E kp ops o vj k (Rb P E kp ops bi vi z K) s:=by
 obtain⟨a1,a2,a3⟩:=Zai (E:=E) W
 by_cases S:Z9 bi z=.P\/Z9 bi z=.R\/Z9 bi z=.L\/Z9 bi z=.B
 rw[Rj S]at h;obtain⟨u,j,h2⟩:=h;refine W4 ?_ (J3 W h2);rintro s' ⟨hk,hH,hw,U⟩;rw[Rj S];refine⟨u,Zdu (c:=Z9 o k) ?_ hH U hw j,hk⟩
 rcases S with S|S|S|S
 exact .inl S;refine .inr (.inl ⟨S,?_⟩);rw[S]at y
 cases M:Z9 o k<;>simp[M,Qa]at y⊢
 exact .inr (.inr (.inl S));refine .inr (.inr (.inr ⟨S,?_⟩));rw[S]at y
 cases M:Z9 o k<;>simp[M,Qa]at y⊢
 .
  have hA:Z9 bi z=.A:=by
   cases hcl:Z9 bi z<;>simp[hcl]at S⊢
   rw[hcl]at y;simp[Qa]at y
  unfold Rb at h
  split at h
  .rename_i hw
   unfold Xg at h;simp only[hA]at h;obtain⟨w,h⟩:=h;obtain⟨d,uu,mk,hmk,hd,hk,hback⟩:=Q3 hA h;rw[hd]at w;simp only at w
   let n:Nat->AS:=λg=>{ s with H:=Z3 s.H (E.q+d) (mk g) }
   have hk':∀ g,Rb P E kp ops o vj k (λs'=>K (s'.put z.dst (uu g))/\hrel P kp (Z9 o k) (n g).H s'.H/\Zz ops s'.τ z=Zz ops (n g).τ z/\∀ x∈z.op.operands,s'.ev E x=(n g).ev E x) (n g):=λg=>J3 W (hk g)
   have G:∀ (s:AS) (H':Heap) x,AS.ev E { s with H:=H' } x=s.ev E x:=λs H' x=>by cases x<;>rfl
   have fin:∀ s1:AS,Zz ops s1.τ z=Zz ops s.τ z->(∀ x∈z.op.operands,s1.ev E x=s.ev E x)->s1.H (E.q+d)=.dead ->
     (∀ g,K (AS.put { s1 with H:=Z3 s1.H (E.q+d) (mk g) } z.dst (uu g)))->Rb P E kp ops bi vi z K s1:=by
    intro s1 hw1 hev1 hd1 hK1;unfold Rb;rw[hw1,hw];simp only;unfold Xg;simp only[hA];refine⟨by rw[hd];exact hd1,(hback s1 _ hev1).2 λg=>?_⟩;exact hK1 g
   by_cases M:Z9 o k=.P\/Z9 o k=.R\/Z9 o k=.L\/Z9 o k=.B
   .have hj':Z9 o k=.P\/Z9 o k=.R\/Z9 o k=.L:=by
     rw[hA]at y
     rcases M with M|M|M|M
     exact .inl M;exact .inr (.inl M);exact .inr (.inr M);rw[M]at y;simp[Qa]at y
    have i:∀ g,∃ r,Ow P E kp ops o vj k (n g) r/\K ((n g).put k.dst r |>.put z.dst (uu g)):=λg=>by
     have:=hk' g;rw[Rj M]at this;obtain⟨r,j,h2,_⟩:=this;exact⟨r,j,h2⟩
    obtain⟨r0,hr0,hrall⟩:∃ r0,Ow P E kp ops o vj k s r0/\∀ g r,Ow P E kp ops o vj k (n g) r->r=r0:=by
     unfold Ow at i⊢;have N:∀ g,Zz ops (n g).τ k=Zz ops s.τ k:=λ_=>rfl;simp only[N]at i⊢
     cases I:Zz ops s.τ k with
     |none=>rw[I]at i;obtain⟨r,j,_⟩:=i 0;exact j.elim
     |some b=>
      rw[I]at i
      cases b with
      |false=>exact⟨_,rfl,λg r hr=>hr⟩
      |true=>
       simp only at i⊢;have hop:∀ g,Jx P ((n g).ev E) k=Jx P (s.ev E) k:=λg=>Mg λx _=>G s _ x;clear hk hback h hk' fin a1 a2 a3 W;obtain⟨dst,op,X,pos,after,Q⟩:=k
       have plain:(∀ g,∃ r,Jx P ((n g).ev E) ⟨dst,op,X,pos,after,Q⟩=some r/\K (((n g).put dst r).put z.dst (uu g))) ->
         ∃ r0,Jx P (s.ev E) ⟨dst,op,X,pos,after,Q⟩=some r0/\∀ g r,Jx P ((n g).ev E) ⟨dst,op,X,pos,after,Q⟩=some r->r=r0:=by
        intro hv;obtain⟨r,j,_⟩:=hv 0;rw[hop]at j;exact⟨r,j,λg r' l=>by rw[hop,j]at l;exact(Option.some.inj l).symm⟩
       cases op<;>simp only[Z9,reduceCtorEq,or_self,or_false,false_or]at hj'<;>simp only at i⊢ <;> try exact plain i
       case lookup t m x ok=>
        have U:∀ g x,(n g).ev E x=s.ev E x:=λg x=>G s _ x;simp only[U]at i⊢;obtain⟨r,j,_⟩:=i 0
        have hv:∀ g,∃ u,Ty P (Z3 s.H (E.q+d) (mk g)) t (s.ev E m) (s.ev E x) ok=some u:=λg=>by
         obtain⟨r,j,_⟩:=i g;exact⟨r,j⟩
        have h0:=Zxg hmk hv j;exact⟨r,h0,λg r' l=>by rw[Zxg hmk hv l]at h0;exact Option.some.inj h0⟩
       case load t x=>
        have U:∀ g,(n g).ev E x=s.ev E x:=λg=>G s _ x;simp only[U]at i⊢
        rcases(show o=.lend\/o=.keep\/∀ (H:Heap) (a u:V),ldR P kp o vj H t a u↔Xt P H t a=some u by
         cases o;exact .inr (.inr λ_ _ _=>Iff.rfl);exact .inl rfl;exact .inr (.inr λ_ _ _=>Iff.rfl);exact .inr (.inl rfl)
         exact .inr (.inr λ_ _ _=>Iff.rfl))with rfl|rfl|hb
        simp only[ldR]at i⊢;obtain⟨r,j,_⟩:=i 0;exact⟨r,j,λg r' l=>by rw[j]at l;exact(Option.some.inj l).symm⟩;simp only[ldR]at i⊢;refine⟨vj,⟨⟨?_,λp O=>?_⟩,rfl⟩,λg r' l=>l.2⟩;obtain⟨r,⟨j,_⟩,_⟩:=i 0;exact j.1
        have hrd:∀ g,Xt P (n g).H p.1 p.2.1=some p.2.2:=λg=>by
         obtain⟨r,⟨j,_⟩,_⟩:=i g;exact j.2 p O
        by_cases O:∃ Y J D,p.2.1=.ptr Y J D
        obtain⟨Y,J,D,O⟩:=O
        have hne:Y≠E.q+d:=by
         intro e;have j:=hrd (J+1);rw[O,e]at j;rw[show(n (J+1)).H=Z3 s.H (E.q+d) (mk (J+1))from rfl,Zm6 hmk]at j;cases j
        have j:=hrd 0;rw[O]at j⊢;simp only[Xt,n,Zk _ _ hne]at j⊢;exact j;have j:=hrd 0;unfold Xt at j⊢
        split
        rename_i Y g D hy;exact absurd ⟨Y,g,D,hy⟩ O;generalize p.2.1=a at j O
        cases a<;>first|exact j|exact absurd ⟨_,_,_,rfl⟩ O
        simp only[hb]at i⊢
        by_cases O:∃ Y J D,s.ev E x=.ptr Y J D
        obtain⟨Y,J,D,O⟩:=O
        have hne:Y≠E.q+d:=by
         intro e;obtain⟨r,j,_⟩:=i (J+1);rw[O,e]at j;rw[show(n (J+1)).H=Z3 s.H (E.q+d) (mk (J+1))from rfl,Zm6 hmk]at j;cases j
        have hr:∀ g,Xt P (n g).H t (s.ev E x)=Xt P s.H t (s.ev E x):=by
         intro g;rw[O];simp only[Xt,n,Zk _ _ hne]
        simp only[hr]at i⊢;obtain⟨r,j,_⟩:=i 0;exact⟨r,j,λg r' l=>by rw[j]at l;exact(Option.some.inj l).symm⟩
        have hr:∀ g,Xt P (n g).H t (s.ev E x)=Xt P s.H t (s.ev E x):=by
         intro g;unfold Xt
         split
         rename_i Y J D hy;exact absurd ⟨Y,J,D,hy⟩ O;rfl
        simp only[hr]at i⊢;obtain⟨r,j,_⟩:=i 0;exact⟨r,j,λg r' l=>by rw[j]at l;exact(Option.some.inj l).symm⟩
       case call c'=>
        obtain⟨callee,args,ats⟩:=c'
        cases callee<;>simp only at i⊢ <;> try exact plain i
        rename_i f;have hf:∀ g,(n g).ev E f=s.ev E f:=λg=>G s _ f;have hargs:∀ g,args.toList.map ((n g).ev E)=args.toList.map (s.ev E):=λg=>List.map_congr_left λx _=>G s _ x
        cases o with
        |any=>simp at hj'
        |keep=>simp at hj'
        |lend=>simp at hj'
        |pure=>
         simp only[hf,hargs]at i⊢
         split at i
         .rename_i fid first cap hfe
          try simp only[hfe]
          obtain⟨r,⟨j,h2⟩,_⟩:=i 0;exact⟨vj,⟨rfl,h2⟩,λg r hr=>hr.1⟩
         obtain⟨r,j,_⟩:=i 0;exact j.elim
        |own=>
         simp only[hf,hargs]at i⊢
         split at i
         .rename_i fid first cap hfe
          try simp only[hfe]
          obtain⟨r,⟨j,h2⟩,_⟩:=i 0;exact⟨vj,⟨rfl,h2⟩,λg r hr=>hr.1⟩
         obtain⟨r,j,_⟩:=i 0;exact j.elim
    rw[Rj M];refine⟨r0,hr0,fin _ ?_ ?_ ?_ ?_⟩;exact(a2 s r0).2;exact(a2 s r0).1;rw[V0];exact w;intro g;obtain⟨r,j,h2⟩:=i g;have:=hrall g r j;subst this;rw[V0,Qp];exact h2
   have hjA:Z9 o k=.A:=by
    rw[hA]at y
    cases hcl:Z9 o k<;>simp[hcl,Qa]at y M⊢
   unfold Rb;have F:=hk' 0;unfold Rb at F;have N:Zz ops (n 0).τ k=Zz ops s.τ k:=rfl;rw[N]at F
   split at F
   .rename_i I
    try rw[I]
    try simp only
    unfold Xg at F⊢;simp only[hjA]at F⊢;obtain⟨v,F⟩:=F;obtain⟨d',uu',mk',_,hd',_,T⟩:=Q3 hjA F
    have hdd:E.q+d'≠E.q+d:=by
     intro e;obtain⟨_,h2,_⟩:=Oper.apart_spec W;have:d'=d:=zo;subst this;exact h2 _ hd hd'
    rw[hd']at v⊢;simp only at v⊢
    have hdead':s.H (E.q+d')=.dead:=by
     rw[show(n 0).H=Z3 s.H (E.q+d) (mk 0)from rfl,Zk _ _ hdd]at v;exact v
    refine⟨hdead',(T s _ (λx _=>(G s _ x).symm)).2 λJ=>?_⟩;have hsτ := a2 { s with H:=Z3 s.H (E.q+d') (mk' J) } (uu' J);rw[<- hd'];refine fin _ ?_ ?_ ?_ ?_;rw[hsτ.2];intro x hx;rw[hsτ.1 x hx,G];rw[V0];simp only;rw[Zk _ _ (Ne.symm hdd)];exact w;intro g;have C:=hk' g;unfold Rb at C;have N:Zz ops (n g).τ k=Zz ops s.τ k:=rfl;rw[N,I]at C;simp only at C;unfold Xg at C;simp only[hjA]at C;have hsame:=(T (n g) _ (λx _=>(G s _ x).trans (G s _ x).symm)).1 C.2;have:=(hsame J).1;rw[V0,Qp];simp only;rw[Z0e _ _ _ hdd];exact this
   .rename_i I
    try rw[I]
    try simp only
    have hkf:∀ g,K ((n g).put k.dst (.tuple []) |>.put z.dst (uu g)):=by
     intro g;have C:=hk' g;unfold Rb at C;have N:Zz ops (n g).τ k=Zz ops s.τ k:=rfl;rw[N,I]at C;exact C.1
    refine fin _ (a2 s _).2 (a2 s _).1 (by rw[V0];exact w) λg=>?_;rw[V0,Qp];exact hkf g
   exact F.elim
  rename_i hw;refine W4 ?_ (J3 W h);rintro s' ⟨hk,hH,hw',U⟩;unfold Rb;rw[hw',hw];exact hk;exact h.elim
end
end Go.Hs
