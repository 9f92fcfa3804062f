/- A part. No condition. -/
import Derived.Test.YtjplgaebbfabnaaGreatDoorP13
set_option linter.all false
namespace Go.Hs
section
variable{P:Program}{E:Ent}{ops:Array Oper}{kp:Kps}
def hrel(P:Program)(kp:Kps)(c:Cls)(H H':Heap):Prop:=
 match c with
 |.P|.R|.L|.B=>H'=H
 |.A=>H'=H\/∃ d x,H d=.dead/\H'=Ya H d x
 |.W=>H'=H\/KpH P kp H'
theorem hrel.keeps{c:Cls}{H H':Heap}(h:hrel P kp c H H')(a:KpH P kp H):KpH P kp H':=by
 cases c
 case A=>
  rcases h with h|⟨d,x,b,h⟩
  grind
  rw[h];exact a.new b x
 case W=>
  rcases h with h|h
  grind
  exact h
 all_goals exact(show H'=H from h) ▸ a
theorem Nb{bor:Md}{v u:V}{o:Oper}{s s':AS}(g:s'.H=s.H)(a:∀ x∈o.op.operands,s'.ev E x=s.ev E x)(n:Z8 ops s'.τ o=Z8 ops s.τ o)(h:Mc P E kp ops bor v o s u):
  Mc P E kp ops bor v o s' u:=by
 unfold Mc at *;rw[n];have e:=Lr (P:=P) a
 split at h
 .rename_i hwt
  obtain⟨r,k,j,pos,after,i⟩:=o
  cases k<;>(try simp only[Op.operands]at a)<;>(try simp only at h⊢)<;>try(rw[e];exact h)
  case load t x=>rw[a x zS,g];exact h
  case lookup t m x ok=>rw[a x zS,a m zS,g];exact h
  case call c=>
   obtain⟨b,d,w⟩:=c;simp only[Call.operands]at a
   cases b<;>(try simp only at h⊢)<;>try(rw[e];exact h)
   rename_i f;have q:s'.ev E f=s.ev E f:=a f zS;have p:d.toList.map (s'.ev E)=d.toList.map (s.ev E):=List.map_congr_left (λx l=>a x (by simp;exact .inr (zu l)));rw[q,p,g];exact h
 all_goals(· exact h)
theorem Zu0{H:Heap}{d:Nat}(c:H d=.dead)(x:AObj){t:TypeId}{m k:V}{ok:Bool}{u:V}(h:Sq P H t m k ok=some u):Sq P (Ya H d x) t m k ok=some u:=by
 unfold Sq at *
 cases m with
 |mref o b=>
  simp only at h⊢
  have a:o≠d:=λe=>by grind
  rw[Zp _ _ a];exact h
 |_=>exact h
def MkOk(mk:Nat->AObj):Prop:=(∃ cs,∀ g,mk g=.cells .new g 0 cs)\/∃ lo,∀ g,mk g=.mp lo g [] []
theorem Zcca{mk:Nat->AObj}(h:MkOk mk){H:Heap}{o g off:Nat}{t:TypeId}:Wc P (Ya H o (mk (g+1))) t (.ptr o g off)=none:=by
 rcases h with ⟨b,h⟩|⟨a,h⟩<;>simp[Wc,h]
theorem Zuj{mk:Nat->AObj}(c:MkOk mk){H:Heap}{d j:Nat}{t:TypeId}{m k:V}{ok:Bool}{u:V}(i:∀ g,∃ u,Sq P (Ya H d (mk g)) t m k ok=some u)(h:Sq P (Ya H d (mk j)) t m k ok=some u):Sq P H t m k ok=some u:=by
 cases m with
 |mref o b=>
  have a:o≠d:=λe=>by
   obtain⟨l,f⟩:=i (b+1);unfold Sq at f;simp only at f;rw[e,Ym]at f
   rcases c with ⟨p,c⟩|⟨n,c⟩
   grind
   grind
  unfold Sq at h⊢;simp only at h⊢;rw[Zp _ _ a]at h;exact h
 |_=>exact h
theorem Zuy{bor:Md}{v u:V}{o:Oper}{s s':AS}{c:Cls}(i:(Yk bor o=.P)\/(Yk bor o=.R/\(c=.P\/c=.R\/c=.L\/c=.B\/c=.A))\/(Yk bor o=.L)\/(Yk bor o=.B/\(c=.P\/c=.R\/c=.L\/c=.B)))
  (p:hrel P kp c s.H s'.H) (k:∀ x∈o.op.operands,s'.ev E x=s.ev E x) (C:Z8 ops s'.τ o=Z8 ops s.τ o) (h:Mc P E kp ops bor v o s u):Mc P E kp ops bor v o s' u:=by
 rcases i with i|⟨i,D⟩|i|⟨i,D⟩
 have M:Mc P E kp ops bor v o ⟨s.τ,s'.H⟩ u:=by
  unfold Mc at *
  split at h
  .rename_i l
   have q:Z8 ops (⟨s.τ,s'.H⟩:AS).τ o=some true:=l;rw[q];simp only
   have I:I6 P (AS.ev E ⟨s.τ,s'.H⟩) o=I6 P (s.ev E) o:=Lr λx _=>by cases x<;>rfl
   obtain⟨J,G,z,pos,after,w⟩:=o
   cases G<;>(try simp only[Yk,reduceCtorEq]at i)<;>(try simp only at h⊢)<;>try(rw[I];exact h)
   case load t x=>
    have S:AS.ev E ⟨s.τ,s'.H⟩ x=s.ev E x:=by cases x<;>rfl
    rw[S]
    cases bor with
    |lend=>exact h
    |keep=>cases i
    |pure=>cases i
    |own=>cases i
    |any=>cases i
   case call c'=>
    obtain⟨j,n,K⟩:=c'
    cases j<;>(try simp only at h⊢)<;>try(rw[I];exact h)
    rename_i f
    have S:AS.ev E ⟨s.τ,s'.H⟩ f=s.ev E f:=by cases f<;>rfl
    have h2:n.toList.map (AS.ev E ⟨s.τ,s'.H⟩)=n.toList.map (s.ev E):=List.map_congr_left (λx _=>by cases x<;>rfl);rw[S,h2]
    cases bor with
    |any=>simp at i
    |keep=>simp at i
    |lend=>simp at i
    |pure=>exact h
    |own=>exact h
  rename_i l;have q:Z8 ops (⟨s.τ,s'.H⟩:AS).τ o=some false:=l;rw[q];exact h;exact h.elim
 refine Nb (s:=⟨s.τ,s'.H⟩) rfl (λx X=>?_) C M;rw[k x X]
 cases x<;>rfl
 have F:s'.H=s.H\/∃ d x,s.H d=.dead/\s'.H=Ya s.H d x:=by
  rcases D with rfl|rfl|rfl|rfl|rfl
  exact .inl p;exact .inl p;exact .inl p;exact .inl p;exact p
 rcases F with p|⟨d,x,T,p⟩
 exact Nb p k C h;unfold Mc at *;rw[C]
 split at h
 .rename_i l
  clear l C;obtain⟨J,G,z,pos,after,w⟩:=o
  cases G<;>(try simp only[Yk,reduceCtorEq]at i)
  case makeMap t r=>cases r<;>cases i
  case load t y=>
   simp only[Op.operands]at k;simp only at h⊢;rw[k y zS,p]
   have Y:∀ (H:Heap) (a:V),ldR P kp bor v H t a u↔Wc P H t a=some u:=λH a=>by
    cases bor with
    |lend=>cases i
    |keep=>cases i
    |pure=>exact Iff.rfl
    |own=>exact Iff.rfl
    |any=>exact Iff.rfl
   rw[Y]at h⊢;unfold Wc at *
   split at h
   rename_i W g U hy
   split at h
   rename_i c1 g1 fz cs N
   have O:W≠d:=λe=>by rw[e,T]at N;cases N
   rw[Zp _ _ O,N];exact h;simp at h;exact h
  case lookup t m y ok=>
   simp only[Op.operands]at k;simp only at h⊢;rw[k y zS,k m zS,p];exact Zu0 T x h
  case call c'=>
   obtain⟨j,n,K⟩:=c';cases j
   simp only at i;split at i<;>cases i
   cases i
   rename_i b;cases b<;>cases i
 exact h;exact h.elim;unfold Mc at *;rw[C]
 split at h
 .rename_i l
  clear l C;obtain⟨J,G,z,pos,after,w⟩:=o
  cases G<;>(try simp only[Yk,reduceCtorEq]at i)
  case makeMap t r=>cases r<;>cases i
  case load t y=>
   simp only[Op.operands]at k;simp only at h⊢;rw[k y zS]
   cases bor with
   |lend=>cases i
   |pure=>cases i
   |own=>cases i
   |any=>cases i
   |keep=>exact⟨⟨h.1.1,p.keeps h.1.2⟩,h.2⟩
  case call c'=>
   obtain⟨j,n,K⟩:=c';cases j
   simp only at i;split at i<;>cases i
   cases i
   rename_i b;cases b<;>cases i
 exact h;exact h.elim
 have Q:s'.H=s.H:=by rcases D with rfl|rfl|rfl|rfl<;>exact p
 exact Nb Q k C h
theorem P9{bor:Md}{o:Oper}(a:Yk bor o=.A){s:AS}{K:V->Heap->Prop}(h:Yy P E s o K):
  ∃ (d:Nat) (u:Nat->V) (mk:Nat->AObj),MkOk mk/\o.dst=some d/\(∀ g,K (u g) (Ya s.H (E.q+d) (mk g))) /\
   ∀ (s':AS) (K':V->Heap->Prop),(∀ x∈o.op.operands,s'.ev E x=s.ev E x)->(Yy P E s' o K'↔∀ g,K' (u g) (Ya s'.H (E.q+d) (mk g))):=by
 obtain⟨dst,U,R,pos,after,N⟩:=o
 cases U<;>(try simp only[Yk,reduceCtorEq]at a)
 case load t x=>cases bor<;>cases a
 case alloc t=>
  simp only[Yy]at h
  split at h
  rename_i z d y;refine⟨d,λg=>.ptr (E.q+d) g 0,λg=>.cells .new g 0 z.cells,.inl ⟨_,λ_=>rfl⟩,rfl,h.2,λs' K' _=>?_⟩;simp only[Yy,y];exact⟨λk=>k.2,λj=>⟨h.1,j⟩⟩;exact h.elim
 case box t x=>
  simp only[Yy]at h
  split at h
  rename_i d;refine⟨d,λg=>.ptr (E.q+d) g 0,λg=>.cells .new g 0 (s.ev E x).cells,.inl ⟨_,λ_=>rfl⟩,rfl,h.2,λs' K' v=>?_⟩;simp only[Yy];rw[v x (by simp[Op.operands])];exact⟨λk=>k.2,λj=>⟨h.1,j⟩⟩;exact h.elim
 case buildSlice t len parts=>
  simp only[Yy]at h
  split at h
  .rename_i d
   unfold Tb at h
   split at h
   case h_2=>exact h.elim
   rename_i e F
   split at h
   case h_2=>exact h.elim
   rename_i Q z i y;obtain⟨M,L,J,D⟩:=h
   split at D
   case h_2=>exact D.elim
   rename_i cs W;refine⟨d,λg=>.msl (E.q+d) g 0 len Q,λg=>.cells .new g 0 cs,.inl ⟨_,λ_=>rfl⟩,rfl,D,λs' K' v=>?_⟩
   have G:(parts.toList.map λp=>(p.1,s'.ev E p.2))=(parts.toList.map λp=>(p.1,s.ev E p.2)):=by
    apply List.map_congr_left;intro p G;rw[v p.2 (by simp[Op.operands];exact⟨p.1,zu G⟩)]
   simp only[Yy,Tb,G,F,i,y,W];exact⟨λk=>k.2.2.2,λj=>⟨M,L,J,j⟩⟩
  exact h.elim
 case makeMap t r=>
  cases r with
  |some r=>cases a
  |none=>
   simp only[Yy]at h
   split at h
   rename_i d;exact⟨d,λb=>.mref (E.q+d) b,λb=>.mp E.X0.w.heap.size b [] [],.inr ⟨_,λ_=>rfl⟩,rfl,h,λs' K' _=>Iff.rfl⟩;exact h.elim
 case makeSlice t l c=>
  simp only[Yy]at h
  split at h
  .rename_i d
   have B:∃ e k1 n k2 m,P.underlying t=some (.slice e)/\s.ev E l=.int k1 n/\s.ev E c=.int k2 m:=by
    clear a;unfold U4 at h;generalize P.underlying t=a1 at *;generalize s.ev E l=a2 at *;generalize s.ev E c=a3 at *
    split at h
    exact⟨_,_,_,_,_,rfl,rfl,rfl⟩;exact h.elim
   obtain⟨e,k1,n,k2,m,F,S,C⟩:=B;unfold U4 at h;rw[F,S,C]at h;simp only at h
   split at h
   case h_2=>exact h.elim
   rename_i Q O z i I y;obtain⟨M,L,J,D,h5,Y,X⟩:=h;refine⟨d,λg=>.msl (E.q+d) g 0 n.toNat Q,λg=>.cells .new g 0 (V5 m.toNat z.cells),.inl ⟨_,λ_=>rfl⟩,rfl,X,λs' K' v=>?_⟩;have e1:=v l (by simp[Op.operands]);have e2:=v c (by simp[Op.operands]);simp only[Yy,U4,e1,e2,S,C,F,i,I,y];exact⟨λk=>k.2.2.2.2.2.2,λj=>⟨M,L,J,D,h5,Y,j⟩⟩
  exact h.elim
 case call c=>
  obtain⟨f,T,ats⟩:=c;cases f
  simp only at a;split at a<;>cases a
  cases a
  rename_i b;cases b<;>cases a
theorem Hf{bor:Md}{v u:V}{b a:Oper}(G:b.apart ops a=true){K:AS->Prop}{s:AS}(h:Qe P E kp ops bor v a K (s.put b.dst u)):
  Qe P E kp ops bor v a (λs'=>K (s'.put b.dst u)/\hrel P kp (Yk bor a) s.H s'.H/\Z8 ops s'.τ b=Z8 ops s.τ b/\∀ x∈b.op.operands,s'.ev E x=s.ev E x) s:=by
 obtain⟨D,U,M⟩:=Z7k (E:=E) G;have I:=Uo s b.dst u
 have c:∀ w f,(AS.put { s with H:=f } a.dst w).put b.dst u=AS.put { (s.put b.dst u)with H:=f } a.dst w:=by
  intro w f;rw[Py,<- M]
 have S:∀ (s:AS) (f:Heap) x,AS.ev E { s with H:=f } x=s.ev E x:=λs f x=>by rfl
 have facts:∀ w f,Z8 ops (AS.put { s with H:=f } a.dst w).τ b=Z8 ops s.τ b/\∀ x∈b.op.operands,(AS.put { s with H:=f } a.dst w).ev E x=s.ev E x:=by
  intro w f;obtain⟨b1,T⟩:=U { s with H:=f } w;exact⟨T,λx z=>by grind⟩
 by_cases k:Yk bor a=.P\/Yk bor a=.R\/Yk bor a=.L\/Yk bor a=.B
 rw[Ql k]at h⊢;obtain⟨r,Q,y⟩:=h;refine⟨r,Nb (s:=s.put b.dst u) I.symm (λx z=>((D s u).1 x z).symm) ((D s u).2).symm Q,?_,?_,?_⟩;have:=c r s.H
 have e:K ((s.put a.dst r).put b.dst u):=by
  have J:(s.put a.dst r).put b.dst u=(s.put b.dst u).put a.dst r:=(M s u r).symm;rw[J];exact y
 exact e;rw[Uo]
 rcases k with k|k|k|k<;>rw[k]<;>rfl
 exact facts r s.H
 have l:∀ o:V->Heap->Prop,Xt P E kp bor v s a o↔(Yk bor a=.A->∃ d,a.dst=some d/\s.H (E.q+d)=.dead)/\Yy P E s a (λu f=>(Yk bor a=.W->KpH P kp f)/\o u f):=by
  intro o;unfold Xt
  cases j:Yk bor a<;>simp only[j,reduceCtorEq,false_or,or_false,or_self,not_true_eq_false]at k⊢
  simp only[true_implies,false_implies,true_and]
  cases a.dst<;>simp
  simp
 have i:∀ o:V->Heap->Prop,Xt P E kp bor v (s.put b.dst u) a o↔(Yk bor a=.A->∃ d,a.dst=some d/\s.H (E.q+d)=.dead)/\Yy P E (s.put b.dst u) a (λu f=>(Yk bor a=.W->KpH P kp f)/\o u f):=by
  intro o;unfold Xt
  cases j:Yk bor a<;>simp only[j,reduceCtorEq,false_or,or_false,or_self,not_true_eq_false]at k⊢
  simp only[true_implies,false_implies,true_and,I]
  cases a.dst<;>simp
  simp
 unfold Qe at h⊢;rw[(D s u).2]at h
 split at h
 rename_i F;simp only[F];rw[i]at h;rw[l];refine⟨h.1,?_⟩;have y:=h.2;rw[Z8h (s':=s) I (λx z=>(D s u).1 x z)]at y
 by_cases C:Yk bor a=.A
 obtain⟨d,X,mk,N,O,p,n⟩:=P9 C y;refine(n s _ (λ_ _=>rfl)).2 λg=>⟨λe=>(by rw[C]at e;cases e),?_,?_,?_⟩;rw[c];exact(p g).2;rw[Uo,C];obtain⟨Y,t,m⟩:=h.1 C;rw[O]at t;cases t;exact .inr ⟨_,_,m,rfl⟩;exact facts _ _;refine Xn (λw f p=>⟨p.1,?_,?_,?_⟩) y;rw[c];exact p.2
 have:Yk bor a=.W:=by cases j:Yk bor a<;>simp_all
 rw[Uo,this];exact .inr (p.1 this);exact facts _ _;rename_i F;simp only[F];refine⟨?_,?_,?_⟩;have:=c (.tuple []) s.H
 have e:K ((s.put a.dst (.tuple [])).put b.dst u):=by
  have J:(s.put a.dst (.tuple [])).put b.dst u=(s.put b.dst u).put a.dst (.tuple []):=(M s u _).symm;rw[J];exact h
 exact e;rw[Uo]
 cases Yk bor a<;>simp[hrel]
 exact facts (.tuple []) s.H;exact h.elim
theorem Z9h{bi o:Md}{vi vj:V}{z k:Oper}(W:z.apart ops k=true)(y:Pc (Yk bi z) (Yk o k)=true){K:AS->Prop}{s:AS}
  (h:Qe P E kp ops bi vi z (Qe P E kp ops o vj k K) s):Qe P E kp ops o vj k (Qe P E kp ops bi vi z K) s:=by
 obtain⟨a1,a2,a3⟩:=Z7k (E:=E) W
 by_cases S:Yk bi z=.P\/Yk bi z=.R\/Yk bi z=.L\/Yk bi z=.B
 rw[Ql S]at h;obtain⟨u,j,h2⟩:=h;refine Vg ?_ (Hf W h2);rintro s' ⟨hk,hH,hw,U⟩;rw[Ql S];refine⟨u,Zuy (c:=Yk o k) ?_ hH U hw j,hk⟩
 rcases S with S|S|S|S
 exact .inl S;refine .inr (.inl ⟨S,?_⟩);rw[S]at y
 cases M:Yk o k<;>simp[M,Pc]at y⊢
 exact .inr (.inr (.inl S));refine .inr (.inr (.inr ⟨S,?_⟩));rw[S]at y
 cases M:Yk o k<;>simp[M,Pc]at y⊢
 .
  have hA:Yk bi z=.A:=by
   cases hcl:Yk bi z<;>simp[hcl]at S⊢
   rw[hcl]at y;simp[Pc]at y
  unfold Qe at h
  split at h
  .rename_i hw
   unfold Xt at h;simp only[hA]at h;obtain⟨w,h⟩:=h;obtain⟨d,uu,mk,hmk,hd,hk,hback⟩:=P9 hA h;rw[hd]at w;simp only at w
   let n:Nat->AS:=λg=>{ s with H:=Ya s.H (E.q+d) (mk g) }
   have hk':∀ g,Qe P E kp ops o vj k (λs'=>K (s'.put z.dst (uu g))/\hrel P kp (Yk o k) (n g).H s'.H/\Z8 ops s'.τ z=Z8 ops (n g).τ z/\∀ x∈z.op.operands,s'.ev E x=(n g).ev E x) (n g):=λg=>Hf W (hk g)
   have G:∀ (s:AS) (H':Heap) x,AS.ev E { s with H:=H' } x=s.ev E x:=λs H' x=>by cases x<;>rfl
   have fin:∀ s1:AS,Z8 ops s1.τ z=Z8 ops s.τ z->(∀ x∈z.op.operands,s1.ev E x=s.ev E x)->s1.H (E.q+d)=.dead ->
     (∀ g,K (AS.put { s1 with H:=Ya s1.H (E.q+d) (mk g) } z.dst (uu g)))->Qe P E kp ops bi vi z K s1:=by
    intro s1 hw1 hev1 hd1 hK1;unfold Qe;rw[hw1,hw];simp only;unfold Xt;simp only[hA];refine⟨by rw[hd];exact hd1,(hback s1 _ hev1).2 λg=>?_⟩;exact hK1 g
   by_cases M:Yk o k=.P\/Yk o k=.R\/Yk o k=.L\/Yk o k=.B
   .have hj':Yk o k=.P\/Yk o k=.R\/Yk o k=.L:=by
     rw[hA]at y
     rcases M with M|M|M|M
     exact .inl M;exact .inr (.inl M);exact .inr (.inr M);rw[M]at y;simp[Pc]at y
    have i:∀ g,∃ r,Mc P E kp ops o vj k (n g) r/\K ((n g).put k.dst r |>.put z.dst (uu g)):=λg=>by
     have:=hk' g;rw[Ql M]at this;obtain⟨r,j,h2,_⟩:=this;exact⟨r,j,h2⟩
    obtain⟨r0,hr0,hrall⟩:∃ r0,Mc P E kp ops o vj k s r0/\∀ g r,Mc P E kp ops o vj k (n g) r->r=r0:=by
     unfold Mc at i⊢;have N:∀ g,Z8 ops (n g).τ k=Z8 ops s.τ k:=λ_=>rfl;simp only[N]at i⊢
     cases I:Z8 ops s.τ k with
     |none=>rw[I]at i;obtain⟨r,j,_⟩:=i 0;exact j.elim
     |some b=>
      rw[I]at i
      cases b with
      |false=>exact⟨_,rfl,λg r hr=>hr⟩
      |true=>
       simp only at i⊢;have hop:∀ g,I6 P ((n g).ev E) k=I6 P (s.ev E) k:=λg=>Lr λx _=>G s _ x;clear hk hback h hk' fin a1 a2 a3 W;obtain⟨dst,op,X,pos,after,Q⟩:=k
       have plain:(∀ g,∃ r,I6 P ((n g).ev E) ⟨dst,op,X,pos,after,Q⟩=some r/\K (((n g).put dst r).put z.dst (uu g))) ->
         ∃ r0,I6 P (s.ev E) ⟨dst,op,X,pos,after,Q⟩=some r0/\∀ g r,I6 P ((n g).ev E) ⟨dst,op,X,pos,after,Q⟩=some r->r=r0:=by
        intro hv;obtain⟨r,j,_⟩:=hv 0;rw[hop]at j;exact⟨r,j,λg r' l=>by rw[hop,j]at l;exact(Option.some.inj l).symm⟩
       cases op<;>simp only[Yk,reduceCtorEq,or_self,or_false,false_or]at hj'<;>simp only at i⊢ <;> try exact plain i
       case lookup t m x ok=>
        have U:∀ g x,(n g).ev E x=s.ev E x:=λg x=>G s _ x;simp only[U]at i⊢;obtain⟨r,j,_⟩:=i 0
        have hv:∀ g,∃ u,Sq P (Ya s.H (E.q+d) (mk g)) t (s.ev E m) (s.ev E x) ok=some u:=λg=>by
         obtain⟨r,j,_⟩:=i g;exact⟨r,j⟩
        have h0:=Zuj hmk hv j;exact⟨r,h0,λg r' l=>by rw[Zuj hmk hv l]at h0;exact Option.some.inj h0⟩
       case load t x=>
        have U:∀ g,(n g).ev E x=s.ev E x:=λg=>G s _ x;simp only[U]at i⊢
        rcases(show o=.lend\/o=.keep\/∀ (H:Heap) (a u:V),ldR P kp o vj H t a u↔Wc P H t a=some u by
         cases o;exact .inr (.inr λ_ _ _=>Iff.rfl);exact .inl rfl;exact .inr (.inr λ_ _ _=>Iff.rfl);exact .inr (.inl rfl)
         exact .inr (.inr λ_ _ _=>Iff.rfl))with rfl|rfl|hb
        simp only[ldR]at i⊢;obtain⟨r,j,_⟩:=i 0;exact⟨r,j,λg r' l=>by rw[j]at l;exact(Option.some.inj l).symm⟩;simp only[ldR]at i⊢;refine⟨vj,⟨⟨?_,λp O=>?_⟩,rfl⟩,λg r' l=>l.2⟩;obtain⟨r,⟨j,_⟩,_⟩:=i 0;exact j.1
        have hrd:∀ g,Wc P (n g).H p.1 p.2.1=some p.2.2:=λg=>by
         obtain⟨r,⟨j,_⟩,_⟩:=i g;exact j.2 p O
        by_cases O:∃ Y J D,p.2.1=.ptr Y J D
        obtain⟨Y,J,D,O⟩:=O
        have hne:Y≠E.q+d:=by
         intro e;have j:=hrd (J+1);rw[O,e]at j;rw[show(n (J+1)).H=Ya s.H (E.q+d) (mk (J+1))from rfl,Zcca hmk]at j;cases j
        have j:=hrd 0;rw[O]at j⊢;simp only[Wc,n,Zp _ _ hne]at j⊢;exact j;have j:=hrd 0;unfold Wc at j⊢
        split
        rename_i Y g D hy;exact absurd ⟨Y,g,D,hy⟩ O;generalize p.2.1=a at j O
        cases a<;>first|exact j|exact absurd ⟨_,_,_,rfl⟩ O
        simp only[hb]at i⊢
        by_cases O:∃ Y J D,s.ev E x=.ptr Y J D
        obtain⟨Y,J,D,O⟩:=O
        have hne:Y≠E.q+d:=by
         intro e;obtain⟨r,j,_⟩:=i (J+1);rw[O,e]at j;rw[show(n (J+1)).H=Ya s.H (E.q+d) (mk (J+1))from rfl,Zcca hmk]at j;cases j
        have hr:∀ g,Wc P (n g).H t (s.ev E x)=Wc P s.H t (s.ev E x):=by
         intro g;rw[O];simp only[Wc,n,Zp _ _ hne]
        simp only[hr]at i⊢;obtain⟨r,j,_⟩:=i 0;exact⟨r,j,λg r' l=>by rw[j]at l;exact(Option.some.inj l).symm⟩
        have hr:∀ g,Wc P (n g).H t (s.ev E x)=Wc P s.H t (s.ev E x):=by
         intro g;unfold Wc
         split
         rename_i Y J D hy;exact absurd ⟨Y,J,D,hy⟩ O;rfl
        simp only[hr]at i⊢;obtain⟨r,j,_⟩:=i 0;exact⟨r,j,λg r' l=>by rw[j]at l;exact(Option.some.inj l).symm⟩
       case call c'=>
        obtain⟨callee,args,ats⟩:=c'
        cases callee<;>simp only at i⊢ <;> try exact plain i
        rename_i f;have hf:∀ g,(n g).ev E f=s.ev E f:=λg=>G s _ f;have hargs:∀ g,args.toList.map ((n g).ev E)=args.toList.map (s.ev E):=λg=>List.map_congr_left λx _=>G s _ x
        cases o with
        |any=>simp at hj'
        |keep=>simp at hj'
        |lend=>simp at hj'
        |pure=>
         simp only[hf,hargs]at i⊢
         split at i
         .rename_i fid first cap hfe
          try simp only[hfe]
          obtain⟨r,⟨j,h2⟩,_⟩:=i 0;exact⟨vj,⟨rfl,h2⟩,λg r hr=>hr.1⟩
         obtain⟨r,j,_⟩:=i 0;exact j.elim
        |own=>
         simp only[hf,hargs]at i⊢
         split at i
         .rename_i fid first cap hfe
          try simp only[hfe]
          obtain⟨r,⟨j,h2⟩,_⟩:=i 0;exact⟨vj,⟨rfl,h2⟩,λg r hr=>hr.1⟩
         obtain⟨r,j,_⟩:=i 0;exact j.elim
    rw[Ql M];refine⟨r0,hr0,fin _ ?_ ?_ ?_ ?_⟩;exact(a2 s r0).2;exact(a2 s r0).1;rw[Uo];exact w;intro g;obtain⟨r,j,h2⟩:=i g;have:=hrall g r j;subst this;rw[Uo,Py];exact h2
   have hjA:Yk o k=.A:=by
    rw[hA]at y
    cases hcl:Yk o k<;>simp[hcl,Pc]at y M⊢
   unfold Qe;have F:=hk' 0;unfold Qe at F;have N:Z8 ops (n 0).τ k=Z8 ops s.τ k:=rfl;rw[N]at F
   split at F
   .rename_i I
    try rw[I]
    try simp only
    unfold Xt at F⊢;simp only[hjA]at F⊢;obtain⟨v,F⟩:=F;obtain⟨d',uu',mk',_,hd',_,T⟩:=P9 hjA F
    have hdd:E.q+d'≠E.q+d:=by
     intro e;obtain⟨_,h2,_⟩:=Oper.apart_spec W;have:d'=d:=zo;subst this;exact h2 _ hd hd'
    rw[hd']at v⊢;simp only at v⊢
    have hdead':s.H (E.q+d')=.dead:=by
     rw[show(n 0).H=Ya s.H (E.q+d) (mk 0)from rfl,Zp _ _ hdd]at v;exact v
    refine⟨hdead',(T s _ (λx _=>(G s _ x).symm)).2 λJ=>?_⟩;have hsτ := a2 { s with H:=Ya s.H (E.q+d') (mk' J) } (uu' J);rw[<- hd'];refine fin _ ?_ ?_ ?_ ?_;rw[hsτ.2];intro x hx;rw[hsτ.1 x hx,G];rw[Uo];simp only;rw[Zp _ _ (Ne.symm hdd)];exact w;intro g;have C:=hk' g;unfold Qe at C;have N:Z8 ops (n g).τ k=Z8 ops s.τ k:=rfl;rw[N,I]at C;simp only at C;unfold Xt at C;simp only[hjA]at C;have hsame:=(T (n g) _ (λx _=>(G s _ x).trans (G s _ x).symm)).1 C.2;have:=(hsame J).1;rw[Uo,Py];simp only;rw[Zxh _ _ _ hdd];exact this
   .rename_i I
    try rw[I]
    try simp only
    have hkf:∀ g,K ((n g).put k.dst (.tuple []) |>.put z.dst (uu g)):=by
     intro g;have C:=hk' g;unfold Qe at C;have N:Z8 ops (n g).τ k=Z8 ops s.τ k:=rfl;rw[N,I]at C;exact C.1
    refine fin _ (a2 s _).2 (a2 s _).1 (by rw[Uo];exact w) λg=>?_;rw[Uo,Py];exact hkf g
   exact F.elim
  rename_i hw;refine Vg ?_ (Hf W h);rintro s' ⟨hk,hH,hw',U⟩;unfold Qe;rw[hw',hw];exact hk;exact h.elim
end
end Go.Hs
