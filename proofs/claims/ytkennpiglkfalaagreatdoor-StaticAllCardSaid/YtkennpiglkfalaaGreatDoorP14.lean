/- A part. No condition. -/
import Derived.Test.YtkennpiglkfalaaGreatDoorP13
set_option linter.all false
open Option renaming some->ae
open Go.Op renaming operands->aq
namespace Go.Hs
section
variable{P:Program}{E:BX}{ops:Array Oper}{kp:FP}
def hrel(P:Program)(kp:FP)(c:NH)(H H':A'):Prop:=
 match c with|.P|.R|.L|.B=>H'=H|.A=>H'=H\/∃ d x,H d=.AR/\H'=Ye H d x|.W=>H'=H\/KpH P kp H'
def hrel.keeps{c H H'}(h:hrel P kp c H H')(a:KpH P kp H):KpH P kp H':=by
 cases c
 case A=>
  rcases h with h|⟨d,x,b,h⟩;grind;rw[h];exact a.new b x
 case W=>
  rcases h with h|h;grind;exact h
 all_goals exact(show H'=H from h) ▸ a
def Mz{AX v u o s s'}(g:s'.H=s.H)(a:∀ x∈o.op.operands,s'.ev E x=s.ev E x)(n:Yc ops s'.τ o=Yc ops s.τ o)(h:Kk P E kp ops AX v o s u):Kk P E kp ops AX v o s' u:=by
 unfold Kk at *;rw[n];have e:=Ii (P:=P) a;split at h
 .rename_i hwt;obtain⟨q,k,j,pos,after,i⟩:=o;cases k<;>(try simp only[aq]at a)<;>(try simp only at h⊢)<;>try(rw[e];exact h)
  case load t x=>rw[a x zS,g];exact h
  case lookup t m x ok=>rw[a x zS,a m zS,g];exact h
  case call c=>
   obtain⟨b,d,r⟩:=c;simp only[Call.operands]at a;cases b<;>(try simp only at h⊢)<;>try(rw[e];exact h)
   rename_i f;have p:=a f zS;have h2:d.toList.map _=d.toList.map _:=FQ (λx l=>a x (by simp;exact .inr (zu l)));rw[p,h2,g];exact h
 all_goals(· exact h)
def mJ{H d}(c:H d=.AR)(x){t m k ok u}(h:Rw P H t m k ok=ae u):Rw P (Ye H d x) t m k ok=ae u:=by
 unfold Rw at *;cases m with
 |DF o b=>
  simp only at h⊢;have a:o≠d:=λe=>by grind
  rw[Zy _ _ a];exact h
 |_=>exact h
def WK(mk:Nat->BL):Prop:=(∃ cs,∀ g,mk g=.cells .new g 0 cs)\/∃ lo,∀ g,mk g=.mp lo g [] []
def kP{mk}(h:WK mk){H:A'}{o g off t}:W0 P (Ye H o (mk (g+1))) t (.ptr o g off)=none:=by rcases h with ⟨b,h⟩|⟨a,h⟩<;>simp[W0,h]
def gL{mk}(c:WK mk){H:A'}{d g0 t m k ok u}(i:∀ g,∃ u,Rw P (Ye H d (mk g)) t m k ok=ae u)(h:Rw P (Ye H d (mk g0)) t m k ok=ae u):Rw P H t m k ok=ae u:=by
 cases m with
 |DF o b=>
  have a:o≠d:=λe=>by obtain⟨j,f⟩:=i (b+1);unfold Rw at f;simp only at f;rw[e,Ys]at f;rcases c with ⟨n,c⟩|⟨l,c⟩;grind;grind
  unfold Rw at h⊢;simp only at h⊢;rw[Zy _ _ a]at h;exact h
 |_=>exact h
def AAj{AX v u o s s' c}(i:(Yo AX o=.P)\/(Yo AX o=.R/\(c=.P\/c=.R\/c=.L\/c=.B\/c=.A))\/(Yo AX o=.L)\/(Yo AX o=.B/\(c=.P\/c=.R\/c=.L\/c=.B)))(p:hrel P kp c s.H s'.H)(k:∀ x∈o.op.operands,s'.ev E x=s.ev E x)(C:Yc ops s'.τ o=Yc ops s.τ o)(h:Kk P E kp ops AX v o s u):Kk P E kp ops AX v o s' u:=by
 rcases i with i|⟨i,D⟩|i|⟨i,D⟩;have M:Kk P E kp ops AX v o ⟨s.τ,s'.H⟩ u:=by
  unfold Kk at *;split at h
  .rename_i l;have q:=l;rw[q];simp only;have I:E3 P (AS.ev E ⟨s.τ,s'.H⟩) o=E3 P (s.ev E) o:=Ii λx _=>by cases x<;>rfl
   obtain⟨J,G,z,pos,after,w⟩:=o;cases G<;>(try simp only[Yo,reduceCtorEq]at i)<;>(try simp only at h⊢)<;>try(rw[I];exact h)
   case load t x=>
    have S:AS.ev E ⟨s.τ,s'.H⟩ x=s.ev E x:=by cases x<;>rfl
    rw[S];cases AX with|CO=>exact h|keep=>cases i|pure=>cases i|own=>cases i|any=>cases i
   case call c'=>
    obtain⟨j,n,K⟩:=c';cases j<;>(try simp only at h⊢)<;>try(rw[I];exact h)
    rename_i f;have S:AS.ev E ⟨s.τ,s'.H⟩ f=s.ev E f:=by cases f<;>rfl
    have h2:n.toList.map (AS.ev E ⟨s.τ,s'.H⟩)=n.toList.map (s.ev E):=FQ (λx _=>by cases x<;>rfl);rw[S,h2];cases AX with|any=>simp at i|keep=>simp at i|CO=>simp at i|pure=>exact h|own=>exact h
  rename_i l;have q:Yc ops (⟨s.τ,s'.H⟩:AS).τ o=ae false:=l;rw[q];exact h;exact h.elim
 refine Mz (s:=⟨s.τ,s'.H⟩) rfl (λx W=>?_) C M;rw[k x W];cases x<;>rfl;have F:s'.H=s.H\/∃ d x,s.H d=.AR/\s'.H=Ye s.H d x:=by rcases D with rfl|rfl|rfl|rfl|rfl;exact .inl p;exact .inl p;exact .inl p;exact .inl p;exact p
 rcases F with p|⟨d,x,T,p⟩;exact Mz p k C h;unfold Kk at *;rw[C];split at h
 .rename_i l;clear l C;obtain⟨J,G,z,pos,after,w⟩:=o;cases G<;>(try simp only[Yo,reduceCtorEq]at i)
  case makeMap t r=>cases r<;>cases i
  case load t y=>
   simp only[aq]at k;simp only at h⊢;rw[k y zS,p];have X:∀ (H) (a),KA P kp AX v H t a u↔W0 P H t a=ae u:=λH a=>by cases AX with|CO=>cases i|keep=>cases i|pure=>exact NJ|own=>exact NJ|any=>exact NJ
   rw[X]at h⊢;unfold W0 at *;split at h;rename_i V g U Y;split at h;rename_i c1 g1 fz cs N;have O:V≠d:=λe=>by rw[e,T]at N;cases N
   rw[Zy _ _ O,N];exact h;simp at h;exact h
  case lookup t m y ok=>
   simp only[aq]at k;simp only at h⊢;rw[k y zS,k m zS,p];exact mJ T x h
  case call c'=>
   obtain⟨j,n,K⟩:=c';cases j;simp only at i;split at i<;>cases i;cases i;rename_i b;cases b<;>cases i
 exact h;exact h.elim;unfold Kk at *;rw[C];split at h
 .rename_i l;clear l C;obtain⟨J,G,z,pos,after,w⟩:=o;cases G<;>(try simp only[Yo,reduceCtorEq]at i)
  case makeMap t r=>cases r<;>cases i
  case load t y=>
   simp only[aq]at k;simp only at h⊢;rw[k y zS];cases AX with|CO=>cases i|pure=>cases i|own=>cases i|any=>cases i|keep=>exact⟨⟨h.1.1,p.keeps h.1.2⟩,h.2⟩
  case call c'=>
   obtain⟨j,n,K⟩:=c';cases j;simp only at i;split at i<;>cases i;cases i;rename_i b;cases b<;>cases i
 exact h;exact h.elim;have Q:s'.H=s.H:=by rcases D with rfl|rfl|rfl|rfl<;>exact p
 exact Mz Q k C h
def Nx{AX o}(a:Yo AX o=.A){s K}(h:Y1 P E s o K):∃ (d:Nat) (u:Nat->V) (mk:Nat->BL),WK mk/\o.dst=ae d/\(∀ g,K (u g) (Ye s.H (E.q+d) (mk g))) /\
   ∀ s' K',(∀ x∈o.op.operands,s'.ev E x=s.ev E x)->(Y1 P E s' o K'↔∀ g,K' (u g) (Ye s'.H (E.q+d) (mk g))):=by
 obtain⟨dst,T,Q,pos,after,M⟩:=o;cases T<;>(try simp only[Yo,reduceCtorEq]at a)
 case load t x=>cases AX<;>cases a
 case alloc t=>
  simp only[Y1]at h;split at h;rename_i z d y;refine⟨d,λg=>.ptr _ g 0,λg=>.cells _ g 0 _,.inl ⟨_,λ_=>rfl⟩,rfl,h.2,λs' K' _=>?_⟩;simp only[Y1,y];exact⟨λk=>k.2,λj=>⟨h.1,j⟩⟩;exact h.elim
 case box t x=>
  simp only[Y1]at h;split at h;rename_i d;refine⟨d,λg=>.ptr _ g 0,λg=>.cells _ g 0 _,.inl ⟨_,λ_=>rfl⟩,rfl,h.2,λs' K' v=>?_⟩;simp only[Y1];rw[v x (by simp[aq])];exact⟨λk=>k.2,λj=>⟨h.1,j⟩⟩;exact h.elim
 case buildSlice t len CC=>
  simp only[Y1]at h;split at h
  .rename_i d;unfold T2 at h;split at h
   case h_2=>exact h.elim
   rename_i e F;split at h
   case h_2=>exact h.elim
   rename_i O z i y;obtain⟨L,h2,J,D⟩:=h;split at D
   case h_2=>exact D.elim
   rename_i cs U;refine⟨d,λg=>.A_ _ g 0 _ O,λg=>.cells _ g 0 cs,.inl ⟨_,λ_=>rfl⟩,rfl,D,λs' K' v=>?_⟩;have G:(CC.toList.map λp=>(p.1,s'.ev E p.2))=(CC.toList.map λp=>(p.1,s.ev E p.2)):=by apply FQ;intro p G;rw[v p.2 (by simp[aq];exact⟨p.1,zu G⟩)]
   simp only[Y1,T2,G,F,i,y,U];exact⟨λk=>k.2.2.2,λj=>⟨L,h2,J,j⟩⟩
  exact h.elim
 case makeMap t r=>
  rcases r with _|r;simp only[Y1]at h;split at h;rename_i d;exact⟨d,λb=>.DF (E.q+d) b,λb=>.mp E.X0.w.heap.size b [] [],.inr ⟨_,λ_=>rfl⟩,rfl,h,λs' K' _=>NJ⟩;exact h.elim;cases a
 case makeSlice t l c=>
  simp only[Y1]at h;split at h
  .rename_i d;have B:∃ e k1 n k2 m,P.underlying t=ae (.slice e)/\s.ev E l=.int k1 n/\s.ev E c=.int k2 m:=by clear a;unfold Ty at h;generalize P.underlying t=a1 at *;generalize s.ev E l=a2 at *;generalize s.ev E c=a3 at *;split at h;exact⟨_,_,_,_,_,rfl,rfl,rfl⟩;exact h.elim
   obtain⟨e,k1,n,k2,m,F,R,C⟩:=B;unfold Ty at h;rw[F,R,C]at h;simp only at h;split at h
   case h_2=>exact h.elim
   rename_i O N z i I y;obtain⟨L,h2,J,D,Y,X,W⟩:=h;refine⟨d,λg=>.A_ (E.q+d) g 0 n.toNat O,λg=>.cells .new g 0 (Tr m.toNat z.cells),.inl ⟨_,λ_=>rfl⟩,rfl,W,λs' K' v=>?_⟩;have e1:=v l (by simp[aq]);have e2:=v c (by simp[aq]);simp only[Y1,Ty,e1,e2,R,C,F,i,I,y];exact⟨λk=>k.2.2.2.2.2.2,λj=>⟨L,h2,J,D,Y,X,j⟩⟩
  exact h.elim
 case call c=>
  obtain⟨f,S,ats⟩:=c;cases f;simp only at a;split at a<;>cases a;cases a;rename_i b;cases b<;>cases a
def Da{AX v u oi oj}(C:oi.apart ops oj=true){K s}(h:Ow P E kp ops AX v oj K (s.put oi.dst u)):Ow P E kp ops AX v oj (λs'=>K (s'.put oi.dst u)/\hrel P kp (Yo AX oj) s.H s'.H/\Yc ops s'.τ oi=Yc ops s.τ oi/\∀ x∈oi.op.operands,s'.ev E x=s.ev E x) s:=by
 obtain⟨y,Q,G⟩:=dK (E:=E) C;have D:=Ta s oi.dst u;have a:∀ w b,(AS.put {s with H:=b} oj.dst w).put oi.dst u=AS.put {(s.put oi.dst u)with H:=b} oj.dst w:=by intro w b;rw[Nh,<- G]
 have N:∀ (s:AS) (b) x,AS.ev E {s with H:=b} x=s.ev E x:=λs b x=>by rfl
 have facts:∀ w b,Yc ops (AS.put {s with H:=b} oj.dst w).τ oi=Yc ops s.τ oi/\∀ x∈oi.op.operands,(AS.put {s with H:=b} oj.dst w).ev E x=s.ev E x:=by intro w b;obtain⟨U,O⟩:=Q _ w;exact⟨O,λx p=>by grind⟩
 by_cases i:Yo AX oj=.P\/Yo AX oj=.R\/Yo AX oj=.L\/Yo AX oj=.B;rw[Pw i]at h⊢;obtain⟨r,M,h2⟩:=h;refine⟨r,Mz D.symm (λx p=>((y s u).1 x p).symm) ((y s u).2).symm M,?_,?_,?_⟩;have:=a r s.H;have e:K ((s.put oj.dst r).put oi.dst u):=by have F:=(G s u r).symm;rw[F];exact h2
 exact e;rw[Ta];rcases i with i|i|i|i<;>rw[i]<;>rfl;exact facts r _;have j:∀ m,Wm P E kp AX v s oj m↔(Yo AX oj=.A->∃ d,oj.dst=ae d/\s.H (E.q+d)=.AR)/\Y1 P E s oj (λu b=>(Yo AX oj=.W->KpH P kp b)/\m u b):=by intro m;unfold Wm;cases f:Yo AX oj<;>simp only[f,reduceCtorEq,RY,CF,PP,lA]at i⊢;simp only[lJ,PO,KE];cases oj.dst<;>simp;simp
 have c:∀ m,Wm P E kp AX v (s.put oi.dst u) oj m↔(Yo AX oj=.A->∃ d,oj.dst=ae d/\s.H (E.q+d)=.AR)/\Y1 P E (s.put oi.dst u) oj (λu b=>(Yo AX oj=.W->KpH P kp b)/\m u b):=by intro m;unfold Wm;cases f:Yo AX oj<;>simp only[f,reduceCtorEq,RY,CF,PP,lA]at i⊢;simp only[lJ,PO,KE,D];cases oj.dst<;>simp;simp
 unfold Ow at h⊢;rw[(y s u).2]at h;split at h;rename_i z;simp only[z];rw[c]at h;rw[j];refine⟨h.1,?_⟩;have h2:=h.2;rw[tj D (λx p=>(y s u).1 x p)]at h2;by_cases t:Yo AX oj=.A;obtain⟨d,S,mk,I,J,n,l⟩:=Nx t h2;refine(l s _ (λ_ _=>rfl)).2 λg=>⟨λe=>(by rw[t]at e;cases e),?_,?_,?_⟩;rw[a];exact(n g).2;rw[Ta,t];obtain⟨T,o,k⟩:=h.1 t;rw[J]at o;cases o;exact .inr ⟨_,_,k,rfl⟩;exact facts _ _;refine Wa (λw b n=>⟨n.1,?_,?_,?_⟩) h2;rw[a];exact n.2;have:Yo AX oj=.W:=by cases f:Yo AX oj<;>simp_all
 rw[Ta,this];exact .inr (n.1 this);exact facts _ _;rename_i z;simp only[z];refine⟨?_,?_,?_⟩;have:=a (.tuple []) s.H;have e:K ((s.put oj.dst (.tuple [])).put oi.dst u):=by have F:(s.put oj.dst (.tuple [])).put oi.dst u=(s.put oi.dst u).put oj.dst (.tuple []):=(G s u _).symm;rw[F];exact h
 exact e;rw[Ta];cases Yo AX oj<;>simp[hrel];exact facts (.tuple []) s.H;exact h.elim
def iN{bi bj vi vj oi oj}(Q:oi.apart ops oj=true)(o:Ot (Yo bi oi) (Yo bj oj)=true){K s}(h:Ow P E kp ops bi vi oi (Ow P E kp ops bj vj oj K) s):Ow P E kp ops bj vj oj (Ow P E kp ops bi vi oi K) s:=by
 obtain⟨a1,a2,a3⟩:=dK Q;by_cases M:Yo bi oi=.P\/Yo bi oi=.R\/Yo bi oi=.L\/Yo bi oi=.B;rw[Pw M]at h;obtain⟨u,i,h2⟩:=h;refine V4 ?_ (Da Q h2);rintro s' ⟨hk,hH,hw,O⟩;rw[Pw M];refine⟨u,AAj ?_ hH O hw i,hk⟩;rcases M with M|M|M|M;exact .inl M;refine .inr (.inl ⟨M,?_⟩);rw[M]at o;cases F:Yo bj oj<;>simp[F,Ot]at o⊢;exact .inr (.inr (.inl M));refine .inr (.inr (.inr ⟨M,?_⟩));rw[M]at o;cases F:Yo bj oj<;>simp[F,Ot]at o⊢
 .
  have hA:Yo bi oi=.A:=by cases hcl:Yo bi oi<;>simp[hcl]at M⊢;rw[hcl]at o;simp[Ot]at o
  unfold Ow at h;split at h
  .rename_i hw;unfold Wm at h;simp only[hA]at h;obtain⟨n,h⟩:=h;obtain⟨d,uu,mk,hmk,hd,hk,V⟩:=Nx hA h;rw[hd]at n;simp only at n;let k:=λg=>{s with H:=Ye s.H (E.q+d) (mk g)};have U:∀ g,Ow P E kp ops bj vj oj (λs'=>K (s'.put oi.dst (uu g))/\hrel P kp (Yo bj oj) (k g).H s'.H/\Yc ops s'.τ oi=Yc ops (k g).τ oi/\∀ x∈oi.op.operands,s'.ev E x=(k g).ev E x) (k g):=λg=>Da Q (hk g);have z:∀ (s:AS) (H') x,AS.ev E {s with H:=H'} x=s.ev E x:=λs H' x=>by cases x<;>rfl
   have CK:∀ s1,Yc ops s1.τ oi=Yc ops s.τ oi->(∀ x∈oi.op.operands,s1.ev E x=s.ev E x)->s1.H (E.q+d)=.AR ->
     (∀ g,K (AS.put {s1 with H:=Ye s1.H (E.q+d) (mk g)} oi.dst (uu g)))->Ow P E kp ops bi vi oi K s1:=by
    intro s1 hw1 hev1 hd1 hK1;unfold Ow;rw[hw1,hw];simp only;unfold Wm;simp only[hA];refine⟨by rw[hd];exact hd1,(V s1 _ hev1).2 λg=>?_⟩;exact hK1 g
   by_cases F:Yo bj oj=.P\/Yo bj oj=.R\/Yo bj oj=.L\/Yo bj oj=.B
   .have hj':Yo bj oj=.P\/Yo bj oj=.R\/Yo bj oj=.L:=by rw[hA]at o;rcases F with F|F|F|F;exact .inl F;exact .inr (.inl F);exact .inr (.inr F);rw[F]at o;simp[Ot]at o
    have c:∀ g,∃ r,Kk P E kp ops bj vj oj (k g) r/\K ((k g).put oj.dst r |>.put oi.dst (uu g)):=λg=>by have:=U g;rw[Pw F]at this;obtain⟨r,i,h2,_⟩:=this;exact⟨r,i,h2⟩
    obtain⟨X,hr0,hrall⟩:∃ X,Kk P E kp ops bj vj oj s X/\∀ g r,Kk P E kp ops bj vj oj (k g) r->r=X:=by
     unfold Kk at c⊢;have G:∀ g,Yc ops (k g).τ oj=Yc ops s.τ oj:=λ_=>rfl;simp only[G]at c⊢;cases C:Yc ops s.τ oj with
     |none=>rw[C]at c;obtain⟨r,i,_⟩:=c 0;exact i.elim
     |some b=>
      rw[C]at c;cases b with
      |false=>exact⟨_,rfl,λg r Y=>Y⟩|true=>
       simp only at c⊢;have hop:∀ g,E3 P ((k g).ev E) oj=E3 P (s.ev E) oj:=λg=>Ii λx _=>z s _ x;clear hk V h U CK a1 a2 a3 Q;obtain⟨dst,op,S,pos,after,J⟩:=oj;have plain:(∀ g,∃ r,E3 P ((k g).ev E) ⟨dst,op,S,pos,after,J⟩=ae r/\K (((k g).put dst r).put oi.dst (uu g))) ->
         ∃ X,E3 P (s.ev E) ⟨dst,op,S,pos,after,J⟩=ae X/\∀ g r,E3 P ((k g).ev E) ⟨dst,op,S,pos,after,J⟩=ae r->r=X:=by
        intro hv;obtain⟨r,i,_⟩:=hv 0;rw[hop]at i;exact⟨r,i,λg r' j=>by rw[hop,i]at j;exact(EY j).symm⟩
       cases op<;>simp only[Yo,reduceCtorEq,PP,CF,RY]at hj'<;>simp only at c⊢ <;> try exact plain c
       case lookup t m x ok=>
        have O:∀ g x,(k g).ev E x=s.ev E x:=λg x=>z s _ x;simp only[O]at c⊢;obtain⟨r,i,_⟩:=c 0;have hv:∀ g,∃ u,Rw P (Ye s.H (E.q+d) (mk g)) t (s.ev E m) (s.ev E x) ok=ae u:=λg=>by obtain⟨r,i,_⟩:=c g;exact⟨r,i⟩
        have h0:=gL hmk hv i;exact⟨r,h0,λg r' j=>by rw[gL hmk hv j]at h0;exact EY h0⟩
       case load t x=>
        have O:∀ g,(k g).ev E x=s.ev E x:=λg=>z s _ x;simp only[O]at c⊢;rcases(show bj=.CO\/bj=.keep\/∀ (H) (a u),KA P kp bj vj H t a u↔W0 P H t a=ae u by cases bj;exact .inr (.inr λ_ _ _=>NJ);exact .inl rfl;exact .inr (.inr λ_ _ _=>NJ);exact .inr (.inl rfl);exact .inr (.inr λ_ _ _=>NJ))with rfl|rfl|hb
        simp only[KA]at c⊢;obtain⟨r,i,_⟩:=c 0;exact⟨r,i,λg r' j=>by rw[i]at j;exact(EY j).symm⟩;simp only[KA]at c⊢;refine⟨vj,⟨⟨?_,λp I=>?_⟩,rfl⟩,λg r' j=>j.2⟩;obtain⟨r,⟨i,_⟩,_⟩:=c 0;exact i.1;have hrd:∀ g,W0 P (k g).H p.1 p.2.1=ae p.2.2:=λg=>by obtain⟨r,⟨i,_⟩,_⟩:=c g;exact i.2 p I
        by_cases I:∃ T D w,p.2.1=.ptr T D w;obtain⟨T,D,w,I⟩:=I;have hne:T≠E.q+d:=by intro e;have i:=hrd (D+1);rw[I,e]at i;rw[show(k (D+1)).H=Ye s.H (E.q+d) (mk (D+1))from rfl,kP hmk]at i;cases i
        have i:=hrd 0;rw[I]at i⊢;simp only[W0,k,Zy _ _ hne]at i⊢;exact i;have i:=hrd 0;unfold W0 at i⊢;split;rename_i T g w hy;exact absurd ⟨T,g,w,hy⟩ I;generalize p.2.1=a at i I;cases a<;>first|exact i|exact absurd ⟨_,_,_,rfl⟩ I
        simp only[hb]at c⊢;by_cases I:∃ T D w,s.ev E x=.ptr T D w;obtain⟨T,D,w,I⟩:=I;have hne:T≠E.q+d:=by intro e;obtain⟨r,i,_⟩:=c (D+1);rw[I,e]at i;rw[show(k (D+1)).H=Ye s.H (E.q+d) (mk (D+1))from rfl,kP hmk]at i;cases i
        have Y:∀ g,W0 P (k g).H t (s.ev E x)=W0 P s.H t (s.ev E x):=by intro g;rw[I];simp only[W0,k,Zy _ _ hne]
        simp only[Y]at c⊢;obtain⟨r,i,_⟩:=c 0;exact⟨r,i,λg r' j=>by rw[i]at j;exact(EY j).symm⟩;have Y:∀ g,W0 P (k g).H t (s.ev E x)=W0 P s.H t (s.ev E x):=by intro g;unfold W0;split;rename_i T D w hy;exact absurd ⟨T,D,w,hy⟩ I;rfl
        simp only[Y]at c⊢;obtain⟨r,i,_⟩:=c 0;exact⟨r,i,λg r' j=>by rw[i]at j;exact(EY j).symm⟩
       case call c'=>
        obtain⟨callee,args,ats⟩:=c';cases callee<;>simp only at c⊢ <;> try exact plain c
        rename_i f;have hf:∀ g,(k g).ev E f=s.ev E f:=λg=>z s _ f;have W:∀ g,args.toList.map ((k g).ev E)=args.toList.map (s.ev E):=λg=>FQ λx _=>z s _ x;cases bj with
        |any=>simp at hj'|keep=>simp at hj'|CO=>simp at hj'|pure=>
         simp only[hf,W]at c⊢;split at c
         .rename_i fid first cap hfe
          try simp only[hfe]
          obtain⟨r,⟨i,h2⟩,_⟩:=c 0;exact⟨vj,⟨rfl,h2⟩,λg r Y=>Y.1⟩
         obtain⟨r,i,_⟩:=c 0;exact i.elim
        |own=>
         simp only[hf,W]at c⊢;split at c
         .rename_i fid first cap hfe
          try simp only[hfe]
          obtain⟨r,⟨i,h2⟩,_⟩:=c 0;exact⟨vj,⟨rfl,h2⟩,λg r Y=>Y.1⟩
         obtain⟨r,i,_⟩:=c 0;exact i.elim
    rw[Pw F];refine⟨X,hr0,CK _ ?_ ?_ ?_ ?_⟩;exact(a2 s X).2;exact(a2 s X).1;rw[Ta];exact n;intro g;obtain⟨r,i,h2⟩:=c g;have:=hrall g r i;subst this;rw[Ta,Nh];exact h2
   have hjA:Yo bj oj=.A:=by rw[hA]at o;cases hcl:Yo bj oj<;>simp[hcl,Ot]at o F⊢
   unfold Ow;have y:=U 0;unfold Ow at y;have G:Yc ops (k 0).τ oj=Yc ops s.τ oj:=rfl;rw[G]at y;split at y
   .rename_i C
    try rw[C]
    try simp only
    unfold Wm at y⊢;simp only[hjA]at y⊢;obtain⟨l,y⟩:=y;obtain⟨d',uu',mk',_,hd',_,N⟩:=Nx hjA y;have hdd:E.q+d'≠E.q+d:=by intro e;obtain⟨_,h2,_⟩:=Oper.apart_spec Q;have:d'=d:=zo;subst this;exact h2 _ hd hd'
    rw[hd']at l⊢;simp only at l⊢;have hdead':s.H (E.q+d')=.AR:=by rw[show(k 0).H=Ye s.H (E.q+d) (mk 0)from rfl,Zy _ _ hdd]at l;exact l
    refine⟨hdead',(N s _ (λx _=>(z s _ x).symm)).2 λD=>?_⟩;have hsτ:=a2 {s with H:=Ye s.H (E.q+d') (mk' D)} (uu' D);rw[<- hd'];refine CK _ ?_ ?_ ?_ ?_;rw[hsτ.2];intro x hx;rw[hsτ.1 x hx,z];rw[Ta];simp only;rw[Zy _ _ (FS hdd)];exact n;intro g;have v:=U g;unfold Ow at v;have G:Yc ops (k g).τ oj=Yc ops s.τ oj:=rfl;rw[G,C]at v;simp only at v;unfold Wm at v;simp only[hjA]at v;have hsame:=(N (k g) _ (λx _=>(z s _ x).trans (z s _ x).symm)).1 v.2;have:=(hsame D).1;rw[Ta,Nh];simp only;rw[cp _ _ _ hdd];exact this
   .rename_i C
    try rw[C]
    try simp only
    have hkf:∀ g,K ((k g).put oj.dst (.tuple []) |>.put oi.dst (uu g)):=by intro g;have v:=U g;unfold Ow at v;have G:Yc ops (k g).τ oj=Yc ops s.τ oj:=rfl;rw[G,C]at v;exact v.1
    refine CK _ (a2 s _).2 (a2 s _).1 (by rw[Ta];exact n) λg=>?_;rw[Ta,Nh];exact hkf g
   exact y.elim
  rename_i hw;refine V4 ?_ (Da Q h);rintro s' ⟨hk,hH,hw',O⟩;unfold Ow;rw[hw',hw];exact hk;exact h.elim
