/- A part. No condition. -/
import Derived.Test.YtjplgaebbfabnaaGreatDoorP20
set_option linter.all false
namespace Go.Hs
section
variable{P:Program}{E:Ent}
inductive Rn(a g b k:Nat):V->V->Prop
 |same (v:V):Rn a g b k v v
 |msl (off n m:Nat):Rn a g b k (.msl a g off n m) (.msl b k off n m)
 |ptr (off:Nat):Rn a g b k (.ptr a g off) (.ptr b k off)
 |agg (xs ys:List V) (hl:xs.length=ys.length) (h:∀ i (h1:i<xs.length) (h2:i<ys.length),Rn a g b k xs[i] ys[i]):Rn a g b k (.agg xs) (.agg ys)
theorem Rn.rel{X Y:Cx}{a g b k:Nat}(e:X.le Y)(l:∀ p,X.β a g=some p->Y.β b k=some p){v j:V}(h:Rn a g b k v j):∀ {x:Value},Rel X x v->Rel Y x j:=by
 induction h with
 |same v=>exact λd=>d.mono e
 |msl off n m=>
  intro x d
  cases d with
  |msl _ _ _ _ _ bk bs cap hβ hcap hbk=>
   obtain⟨c,t,r,o⟩:=hbk;obtain⟨s,f,u⟩:=e.blk _ _ _ r;exact .msl b k off n m bk bs cap (l _ hβ) hcap ⟨s,t,f,zo⟩
 |ptr off=>
  intro x d
  cases d with
  |ptr _ _ _ bk bs hβ => exact .ptr b k off bk bs (l _ hβ)
 |agg xs ys hl h ih=>
  intro x d
  cases d with
  |agg as _ r o f=>exact .agg as ys zo o λi p q=>ih i zo q (f i p zo)
def RnO(a g b k:Nat)(H:Heap)(o:Nat)(x:AObj):Prop:=
 x=.dead\/(o=b/\∃ c fz cs cs',x=.cells c k fz cs'/\H a=.cells c g fz cs/\cs'.length=cs.length/\∀ i (h1:i<cs.length) (h2:i<cs'.length),Rn a g b k cs[i] cs'[i]) \/
 (o≠a/\o≠b/\(x=H o\/(∃ c g' fz cs cs',x=.cells c g' fz cs'/\H o=.cells c g' fz cs/\cs'.length=cs.length/\∀ i (h1:i<cs.length) (h2:i<cs'.length),Rn a g b k cs[i] cs'[i]) \/
  ∃ lo b1 ks vs vs',x=.mp lo b1 ks vs'/\H o=.mp lo b1 ks vs/\vs'.length=vs.length/\∀ i (h1:i<vs.length) (h2:i<vs'.length),Rn a g b k vs[i] vs'[i]))
theorem Zhr{X:Cx}{H:Heap}(z:Inv X H)(a g b:Nat)(hb:H b=.dead):∃ k,∀ H':Heap,(∀ o,RnO a g b k H o (H' o))->∃ Y,Y.w=X.w/\Goes X H Y H'/\∀ x v v',Rn a g b k v v'->Rel X x v->Rel Y x v':=by
 obtain⟨k,hk⟩:=z.fin b;refine⟨k,λH' hH=>?_⟩
 let Y:Cx:={ X with β := λo j=>if o=b/\j=k then X.β a g else X.β o j }
 have hno:X.β b k=none:=hk k (Nat.le_refl _);have G:X.le Y:=⟨λo j p O=>(if_neg (by rintro⟨rfl,rfl⟩;rw[hno]at O;cases O)).trans O,λ_ _ h=>h,λ_ _ _ _ h=>h,rfl,λ_ c _ h=>⟨c,h,rfl⟩,λ_ _ _ _ h=>h⟩;have P:Y.β b k=X.β a g:=if_pos ⟨rfl,rfl⟩;have hrel:∀ x v v',Rn a g b k v v'->Rel X x v->Rel Y x v':=λx v v' h hr=>h.rel (Y:=Y) G (λp O=>by rw[P];exact O) hr
 have u:∀ o c j D B,H' o=.cells c j D B->∃ C L f,H C=.cells c L D f/\(∀ p,Y.β o j=some p↔X.β C L=some p)/\B.length=f.length/\(∀ i (d:i<f.length) (l:i<B.length),Rn a g b k f[i] B[i])/\((o=b/\C=a)\/(o≠b/\C=o/\o≠a)):=by
  intro o c j D B e
  rcases hH o with h|⟨rfl,T,J,s,y,d,l,A,I⟩|⟨ha,F,h⟩
  rw[e]at h;cases h;rw[e]at d;cases d;exact⟨a,g,s,l,λp=>by rw[P],A,I,.inl ⟨rfl,rfl⟩⟩
  .have M : ∀ p,Y.β o j=some p↔X.β o j=some p:=λp=>by
    show(if o=b/\j=k then X.β a g else X.β o j)=some p↔_
    rw[if_neg (λq=>F q.1)]
   rcases h with h|⟨T,g1,J,s,y,d,l,A,I⟩|⟨_,_,_,_,_,d,_⟩
   rotate_right
   rw[e]at d;cases d;rw[e]at h;exact⟨o,j,B,h.symm,M,rfl,λi _ _=>.same _,.inr ⟨F,rfl,ha⟩⟩;rw[e]at d;cases d;exact⟨o,_,s,l,M,A,I,.inr ⟨F,rfl,ha⟩⟩
 have hL:∀ o b r,H' o=.lp b r->H o=.lp b r:=λo K r e=>by
  rcases hH o with h|⟨rfl,T,J,s,y,d,_⟩|⟨_,_,h|⟨_,_,_,_,_,d,_⟩|⟨_,_,_,_,_,d,_⟩⟩
  rw[e]at h;cases h;rw[e]at d;cases d;rw[<- h];exact e;rw[e]at d;cases d;rw[e]at d;cases d
 refine⟨Y,rfl,⟨⟨?_,?_,?_,?_,z.bw,z.thaw,?_,z.lps_tr hL λ_ _ _=>rfl⟩,G,Keep.refl _ _,λb i S=>.inl S,?_⟩,hrel⟩;intro o c j D B e;obtain⟨C,L,f,d,l,A,I,_⟩:=u o c j D B e;obtain⟨bk,U,q1,W,c',t,V,q4,N⟩:=z.obj _ _ _ _ _ d;refine⟨bk,U,(l _).2 q1,W,c',t,V,zo,?_⟩;rw[A];exact⟨by rw[N.len,A],N.one,λi p q=>hrel _ _ _ (I i zo q) (N.rel i p zo)⟩;intro o1 T g1 f1 l1 o2 c2 g2 f2 l2 bk s1 s2 d l K b2;obtain⟨p1,j1,s,e1,m1,_,_,d1⟩:=u _ _ _ _ _ d;obtain⟨p2,j2,cs2,e2,m2,_,_,d2⟩:=u _ _ _ _ _ l;have:=z.inj _ _ _ _ _ _ _ _ _ _ _ _ _ e1 e2 ((m1 _).1 K) ((m2 _).1 b2)
 rcases d1 with ⟨x1,y1⟩|⟨x1,y1,z1⟩<;>rcases d2 with ⟨x2,y2⟩|⟨x2,y2,z2⟩<;>omega
 intro bk i S;refine⟨(z.safe bk i S).1,λo c j D B U e M => ?_⟩;obtain⟨C,L,f,d,l,_⟩:=u _ _ _ _ _ e;exact(z.safe bk i S).2 _ _ _ _ _ _ d ((l _).1 M);intro o;obtain⟨n,hn⟩:=z.fin o;refine⟨max n (k+1),λj hj=>?_⟩
 show(if o=b/\j=k then X.β a g else X.β o j)=none
 rw[if_neg zo];exact hn j zo
 have hm:∀ o Q K R m,H' o=.mp Q K R m->∃ E,H o=.mp Q K R E/\m.length=E.length/\∀ i (d:i<E.length) (l:i<m.length),Rn a g b k E[i] m[i]:=λo Q K R m e=>by
  rcases hH o with h|⟨rfl,T,J,s,y,d,_⟩|⟨_,_,h|⟨_,_,_,_,_,d,_⟩|⟨_,_,_,E,_,d,l,A,I⟩⟩
  rw[e]at h;cases h;rw[e]at d;cases d;exact⟨m,by rw[<- h];exact e,rfl,λi _ _=>.same _⟩;rw[e]at d;cases d;rw[e]at d;cases d;exact⟨E,l,A,I⟩
 intro o Q K R m e;obtain⟨E,d,l,A⟩:=hm _ _ _ _ _ e;obtain⟨q1,W,V,es,n,q4,N,q6,q7,q8⟩:=z.mps _ _ _ _ _ d;exact⟨q1,W,λo2 lo2 ks2 vs2 q=>by obtain⟨vs3,q9,_⟩:=hm _ _ _ _ _ q;exact V _ _ _ _ q9,es,n,q4,N,zo,λi p q=>(q7 i p q).mono G,λi p q=>hrel _ _ _ (A i zo q) (q8 i p zo)⟩;refine Uw (λo b r e=>.inr (.inr ⟨o,r,hL _ _ _ e⟩)) ?_;rintro bk ⟨o,c,j,D,B,U,e,M⟩;obtain⟨C,L,f,d,l,_⟩:=u _ _ _ _ _ e;exact .inr (.inl ⟨C,c,L,D,f,U,d,(l _).1 M⟩)
theorem AW.ren{c:Code}{Q:Exit->AS->Prop}{s:AS}(a g b:Nat)(m:s.H b=.dead)
  (h:∀ k,∃ s':AS,(∀ t,s'.τ t=.top\/Rn a g b k (s.τ t) (s'.τ t))/\(∀ o,RnO a g b k s.H o (s'.H o))/\AW P E c Q s'):AW P E c Q s:=by
 rintro x w ⟨X,d⟩;obtain⟨k,l⟩:=Zhr d.go.inv a g b m;obtain⟨s',r,p,n⟩:=h k;obtain⟨Y,e,f,i⟩:=l s'.H p;refine n x w ⟨Y,by rw[e,d.hw],d.on_ f,d.df.go d.go.inv f,d.sz,λt=>?_,λj=>(d.gl j).go d.go.inv f⟩
 rcases r t with q|q
 rw[q];exact .top _;exact i _ _ _ q (d.tm t)
end
end Go.Hs
