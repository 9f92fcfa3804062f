/- A part. No condition. -/
import Derived.Test.YtkennpiglkfalaaGreatDoorP18
set_option linter.all false
open List renaming length->aa
namespace Go.Hs
section
variable{P:Program}{E:BX}
inductive Rn(a g b k:Nat):V->V->Prop
 |CG (v:V):Rn a g b k v v
 |A_ (off n m:Nat):Rn a g b k (.A_ a g off n m) (.A_ b k off n m)
 |ptr (off:Nat):Rn a g b k (.ptr a g off) (.ptr b k off)
 |agg (xs ys:List V) (hl:aa xs=aa ys) (h:∀ i (h1:i<aa xs) (h2:i<aa ys),Rn a g b k xs[i] ys[i]):Rn a g b k (.agg xs) (.agg ys)
def Rn.CV{X Y a g b k}(e:X.le Y)(j:∀ p,X.β a g=some p->Y.β b k=some p){v v'}(h:Rn a g b k v v'):∀ {x},AI X x v->AI Y x v':=by
 induction h with
 |CG v=>exact λd=>d.mono e|A_ off n m=>intro x d;cases d with|A_ _ _ _ _ _ bk bs cap hβ hcap hbk=>obtain⟨c,t,l,h2⟩:=hbk;obtain⟨o,f,r⟩:=e.blk _ _ _ l;exact .A_ b k _ n m bk bs _ (j _ hβ) hcap ⟨o,t,f,zo⟩
 |ptr off=>intro x d;cases d with|ptr _ _ _ bk bs hβ => exact .ptr b k _ bk bs (j _ hβ)
 |agg xs ys hl h ih=>intro x d;cases d with|agg as _ l h2 f=>exact .agg as ys zo h2 λi p q=>ih i zo q (f i p zo)
def WR(a g b k:Nat)(H:A')(o:Nat)(x:BL):Prop:=
 x=.AR\/(o=b/\∃ c fz cs cs',x=.cells c k fz cs'/\H a=.cells c g fz cs/\aa cs'=aa cs/\∀ i h1 (h2:i<aa cs'),Rn a g b k cs[i] cs'[i]) \/
 (o≠a/\o≠b/\(x=H o\/(∃ c g' fz cs cs',x=.cells c g' fz cs'/\H o=.cells c g' fz cs/\aa cs'=aa cs/\∀ i h1 (h2:i<aa cs'),Rn a g b k cs[i] cs'[i]) \/
  ∃ lo b1 ks vs vs',x=.mp lo b1 ks vs'/\H o=.mp lo b1 ks vs/\aa vs'=aa vs/\∀ i h1 (h2:i<aa vs'),Rn a g b k vs[i] vs'[i]))
def xt{X H}(y:BZ X H)(a g b)(hb:H b=.AR):∃ k,∀ H',(∀ o,WR a g b k H o (H' o))->∃ Y,Y.w=X.w/\BH X H Y H'/\∀ x v v',Rn a g b k v v'->AI X x v->AI Y x v':=by
 obtain⟨k,hk⟩:=y.CK b;refine⟨k,λH' hH=>?_⟩;let Y:={X with β:=λo j=>if o=b/\j=k then X.β a g else X.β o j};have hno:=hk k (BO _);have E:X.le Y:=⟨λo j p N=>(AA (by rintro⟨rfl,rfl⟩;rw[hno]at N;cases N)).trans N,λ_ _ h=>h,λ_ _ _ _ h=>h,rfl,λ_ c _ h=>⟨c,h,rfl⟩,λ_ _ _ _ h=>h⟩;have O:Y.β b k=X.β a g:=AF ⟨rfl,rfl⟩;have hrel:∀ x v v',Rn a g b k v v'->AI X x v->AI Y x v':=λx v v' h hr=>h.CV E (λp N=>by rw[O];exact N) hr;have s:∀ o c j C A,H' o=.cells c j C A->∃ B K l,H B=.cells c K C l/\(∀ p,Y.β o j=some p↔X.β B K=some p)/\aa A=aa l/\(∀ i (d) (h2:i<aa A),Rn a g b k l[i] A[i])/\((o=b/\B=a)\/(o≠b/\B=o/\o≠a)):=by
  intro o c j C A e;rcases hH o with h|⟨rfl,S,G,m,u,d,h2,z,F⟩|⟨ha,D,h⟩;rw[e]at h;cases h;rw[e]at d;cases d;exact⟨a,g,m,h2,λp=>by rw[O],z,F,.inl ⟨rfl,rfl⟩⟩
  .have L:∀ p,Y.β o j=some p↔X.β o j=some p:=λp=>by show(if o=b/\j=k then X.β a g else X.β o j)=some p↔_;rw[AA (λq=>D q.1)]
   rcases h with h|⟨S,g1,G,m,u,d,h2,z,F⟩|⟨_,_,_,_,_,d,_⟩
   rotate_right
   rw[e]at d;cases d;rw[e]at h;exact⟨o,j,A,h.symm,L,rfl,λi _ _=>.CG _,.inr ⟨D,rfl,ha⟩⟩;rw[e]at d;cases d;exact⟨o,_,m,h2,L,z,F,.inr ⟨D,rfl,ha⟩⟩
 have hL:∀ o b r,H' o=.lp b r->H o=.lp b r:=λo I r e=>by rcases hH o with h|⟨rfl,S,G,m,u,d,_⟩|⟨_,_,h|⟨_,_,_,_,_,d,_⟩|⟨_,_,_,_,_,d,_⟩⟩;rw[e]at h;cases h;rw[e]at d;cases d;rw[<- h];exact e;rw[e]at d;cases d;rw[e]at d;cases d
 refine⟨Y,rfl,⟨⟨?_,?_,?_,?_,y.bw,y.IM,?_,y.lps_tr hL λ_ _ _=>rfl⟩,E,QA _ _,λb i R=>.inl R,?_⟩,hrel⟩;intro o c j C A e;obtain⟨B,K,l,d,h2,z,F,_⟩:=s o c j C A e;obtain⟨bk,T,W,V,c',t,U,q4,M⟩:=y.DQ _ _ _ _ _ d;refine⟨bk,T,(h2 _).2 W,V,c',t,U,zo,?_⟩;rw[z];exact⟨by rw[M.len,z],M.one,λi p q=>hrel _ _ _ (F i zo q) (M.CV i p zo)⟩;intro o1 S g1 f1 l1 o2 c2 g2 f2 l2 bk s1 s2 d h2 I b2;obtain⟨p1,j1,m,e1,m1,_,_,d1⟩:=s _ _ _ _ _ d;obtain⟨p2,j2,cs2,e2,m2,_,_,d2⟩:=s _ _ _ _ _ h2;have:=y.inj _ _ _ _ _ _ _ _ _ _ _ _ _ e1 e2 ((m1 _).1 I) ((m2 _).1 b2);rcases d1 with ⟨x1,y1⟩|⟨x1,y1,z1⟩<;>rcases d2 with ⟨x2,y2⟩|⟨x2,y2,z2⟩<;>omega;intro bk i R;refine⟨(y.DD bk i R).1,λo c j C A T e L => ?_⟩;obtain⟨B,K,l,d,h2,_⟩:=s _ _ _ _ _ e;exact(y.DD bk i R).2 _ _ _ _ _ _ d ((h2 _).1 L);intro o;obtain⟨n,hn⟩:=y.CK o;refine⟨max n (k+1),λj hj=>?_⟩;show(if o=b/\j=k then X.β a g else X.β o j)=none;rw[AA zo];exact hn j zo;have hm:∀ o P I Q f,H' o=.mp P I Q f->∃ J,H o=.mp P I Q J/\aa f=aa J/\∀ i (d) (h2:i<aa f),Rn a g b k J[i] f[i]:=λo P I Q f e=>by rcases hH o with h|⟨rfl,S,G,m,u,d,_⟩|⟨_,_,h|⟨_,_,_,_,_,d,_⟩|⟨_,_,_,J,_,d,h2,z,F⟩⟩;rw[e]at h;cases h;rw[e]at d;cases d;exact⟨f,by rw[<- h];exact e,rfl,λi _ _=>.CG _⟩;rw[e]at d;cases d;rw[e]at d;cases d;exact⟨J,h2,z,F⟩
 intro o P I Q f e;obtain⟨J,d,h2,z⟩:=hm _ _ _ _ _ e;obtain⟨W,V,U,es,n,q4,M,q6,q7,q8⟩:=y.KB _ _ _ _ _ d;exact⟨W,V,λo2 lo2 ks2 vs2 q=>by obtain⟨vs3,q9,_⟩:=hm _ _ _ _ _ q;exact U _ _ _ _ q9,es,n,q4,M,zo,λi p q=>(q7 i p q).mono E,λi p q=>hrel _ _ _ (z i zo q) (q8 i p zo)⟩;refine Ue (λo b r e=>.inr (.inr ⟨o,r,hL _ _ _ e⟩)) ?_;rintro bk ⟨o,c,j,C,A,T,e,L⟩;obtain⟨B,K,l,d,h2,_⟩:=s _ _ _ _ _ e;exact .inr (.inl ⟨B,c,K,C,l,T,d,(h2 _).1 L⟩)
def AW.ren{c Q s}(a g b)(m:s.H b=.AR)(h:∀ k,∃ s',(∀ t,s'.τ t=.top\/Rn a g b k (s.τ t) (s'.τ t))/\(∀ o,WR a g b k s.H o (s'.H o))/\AW P E c Q s'):AW P E c Q s:=by rintro x w ⟨X,d⟩;obtain⟨k,l⟩:=xt d.go.BJ a g b m;obtain⟨s',p,h2,n⟩:=h k;obtain⟨Y,e,f,i⟩:=l _ h2;refine n x w ⟨Y,by rw[e,d.hw],d.on_ f,d.df.go d.go.BJ f,d.sz,λt=>?_,λj=>(d.gl j).go d.go.BJ f⟩;rcases p t with q|q;rw[q];exact .top _;exact i _ _ _ q (d.tm t)
