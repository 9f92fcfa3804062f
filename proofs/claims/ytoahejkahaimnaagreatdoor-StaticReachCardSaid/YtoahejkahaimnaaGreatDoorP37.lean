/- A part. No condition. -/
import Derived.Test.YtoahejkahaimnaaGreatDoorP20
set_option linter.all false
namespace Go.Hs
section
variable{P:Program}{E:Ent}
inductive Rn(a g b k:Nat):V->V->Prop
 |same (v:V):Rn a g b k v v
 |msl (off n m:Nat):Rn a g b k (.msl a g off n m) (.msl b k off n m)
 |ptr (off:Nat):Rn a g b k (.ptr a g off) (.ptr b k off)
 |agg (xs ys:List V) (hl:xs.length=ys.length) (h:∀ i (h1:i<xs.length) (h2:i<ys.length),Rn a g b k xs[i] ys[i]):Rn a g b k (.agg xs) (.agg ys)
theorem Rn.rel{X Y:Cx}{a g b k:Nat}(hle:X.le Y)(hb:∀ p,X.β a g=some p->Y.β b k=some p){v v':V}(h:Rn a g b k v v'):∀ {x:Value},Rel X x v->Rel Y x v':=by
 induction h with
 |same v=>exact λhr=>hr.mono hle
 |msl off n m=>
  intro x hr
  cases hr with
  |msl _ _ _ _ _ bk bs cap hβ hcap hbk=>
   obtain⟨c,t,h1,h2⟩:=hbk;obtain⟨c',h3,h4⟩:=hle.blk _ _ _ h1;exact .msl b k off n m bk bs cap (hb _ hβ) hcap ⟨c',t,h3,zo⟩
 |ptr off=>
  intro x hr
  cases hr with
  |ptr _ _ _ bk bs hβ => exact .ptr b k off bk bs (hb _ hβ)
 |agg xs ys hl h ih=>
  intro x hr
  cases hr with
  |agg as _ h1 h2 h3=>exact .agg as ys zo h2 λi p q=>ih i zo q (h3 i p zo)
def RnO(a g b k:Nat)(H:Heap)(o:Nat)(x:AObj):Prop:=
 x=.dead\/(o=b/\∃ c fz cs cs',x=.cells c k fz cs'/\H a=.cells c g fz cs/\cs'.length=cs.length/\∀ i (h1:i<cs.length) (h2:i<cs'.length),Rn a g b k cs[i] cs'[i]) \/
 (o≠a/\o≠b/\(x=H o\/(∃ c g' fz cs cs',x=.cells c g' fz cs'/\H o=.cells c g' fz cs/\cs'.length=cs.length/\∀ i (h1:i<cs.length) (h2:i<cs'.length),Rn a g b k cs[i] cs'[i]) \/
  ∃ lo b1 ks vs vs',x=.mp lo b1 ks vs'/\H o=.mp lo b1 ks vs/\vs'.length=vs.length/\∀ i (h1:i<vs.length) (h2:i<vs'.length),Rn a g b k vs[i] vs'[i]))
theorem Zo8{X:Cx}{H:Heap}(hI:Inv X H)(a g b:Nat)(hb:H b=.dead):∃ k,∀ H':Heap,(∀ o,RnO a g b k H o (H' o))->∃ Y,Y.w=X.w/\Goes X H Y H'/\∀ x v v',Rn a g b k v v'->Rel X x v->Rel Y x v':=by
 obtain⟨k,hk⟩:=hI.fin b;refine⟨k,λH' hH=>?_⟩
 let Y:Cx:={ X with β := λo j=>if o=b/\j=k then X.β a g else X.β o j }
 have hno:X.β b k=none:=hk k (Nat.le_refl _);have hle:X.le Y:=⟨λo j p hp=>(if_neg (by rintro⟨rfl,rfl⟩;rw[hno]at hp;cases hp)).trans hp,λ_ _ h=>h,λ_ _ _ _ h=>h,rfl,λ_ c _ h=>⟨c,h,rfl⟩,λ_ _ _ _ h=>h⟩;have hbk:Y.β b k=X.β a g:=if_pos ⟨rfl,rfl⟩;have hrel:∀ x v v',Rn a g b k v v'->Rel X x v->Rel Y x v':=λx v v' h hr=>h.rel (Y:=Y) hle (λp hp=>by rw[hbk];exact hp) hr
 have key:∀ o c j fz cs,H' o=.cells c j fz cs->∃ o0 j0 cs0,H o0=.cells c j0 fz cs0/\(∀ p,Y.β o j=some p↔X.β o0 j0=some p)/\cs.length=cs0.length/\(∀ i (h1:i<cs0.length) (h2:i<cs.length),Rn a g b k cs0[i] cs[i])/\((o=b/\o0=a)\/(o≠b/\o0=o/\o≠a)):=by
  intro o c j fz cs ho
  rcases hH o with h|⟨rfl,c1,fz1,cs1,cs1',h1,h2,h3,h4⟩|⟨ha,hob,h⟩
  rw[ho]at h;cases h;rw[ho]at h1;cases h1;exact⟨a,g,cs1,h2,λp=>by rw[hbk],h3,h4,.inl ⟨rfl,rfl⟩⟩
  .have hβ : ∀ p,Y.β o j=some p↔X.β o j=some p:=λp=>by
    show(if o=b/\j=k then X.β a g else X.β o j)=some p↔_
    rw[if_neg (λq=>hob q.1)]
   rcases h with h|⟨c1,g1,fz1,cs1,cs1',h1,h2,h3,h4⟩|⟨_,_,_,_,_,h1,_⟩
   rotate_right
   rw[ho]at h1;cases h1;rw[ho]at h;exact⟨o,j,cs,h.symm,hβ,rfl,λi _ _=>.same _,.inr ⟨hob,rfl,ha⟩⟩;rw[ho]at h1;cases h1;exact⟨o,_,cs1,h2,hβ,h3,h4,.inr ⟨hob,rfl,ha⟩⟩
 have hL:∀ o b r,H' o=.lp b r->H o=.lp b r:=λo b1 r ho=>by
  rcases hH o with h|⟨rfl,c1,fz1,cs1,cs1',h1,_⟩|⟨_,_,h|⟨_,_,_,_,_,h1,_⟩|⟨_,_,_,_,_,h1,_⟩⟩
  rw[ho]at h;cases h;rw[ho]at h1;cases h1;rw[<- h];exact ho;rw[ho]at h1;cases h1;rw[ho]at h1;cases h1
 refine⟨Y,rfl,⟨⟨?_,?_,?_,?_,hI.bw,hI.thaw,?_,hI.lps_tr hL λ_ _ _=>rfl⟩,hle,Keep.refl _ _,λb i hs=>.inl hs,?_⟩,hrel⟩;intro o c j fz cs ho;obtain⟨o0,j0,cs0,h1,h2,h3,h4,_⟩:=key o c j fz cs ho;obtain⟨bk,bs,q1,q2,c',t,q3,q4,q5⟩:=hI.obj _ _ _ _ _ h1;refine⟨bk,bs,(h2 _).2 q1,q2,c',t,q3,zo,?_⟩;rw[h3];exact⟨by rw[q5.len,h3],q5.one,λi p q=>hrel _ _ _ (h4 i zo q) (q5.rel i p zo)⟩;intro o1 c1 g1 f1 l1 o2 c2 g2 f2 l2 bk s1 s2 h1 h2 b1 b2;obtain⟨p1,j1,cs1,e1,m1,_,_,d1⟩:=key _ _ _ _ _ h1;obtain⟨p2,j2,cs2,e2,m2,_,_,d2⟩:=key _ _ _ _ _ h2;have:=hI.inj _ _ _ _ _ _ _ _ _ _ _ _ _ e1 e2 ((m1 _).1 b1) ((m2 _).1 b2)
 rcases d1 with ⟨x1,y1⟩|⟨x1,y1,z1⟩<;>rcases d2 with ⟨x2,y2⟩|⟨x2,y2,z2⟩<;>omega
 intro bk i hs;refine⟨(hI.safe bk i hs).1,λo c j fz cs bs ho hβ => ?_⟩;obtain⟨o0,j0,cs0,h1,h2,_⟩:=key _ _ _ _ _ ho;exact(hI.safe bk i hs).2 _ _ _ _ _ _ h1 ((h2 _).1 hβ);intro o;obtain⟨n,hn⟩:=hI.fin o;refine⟨max n (k+1),λj hj=>?_⟩
 show(if o=b/\j=k then X.β a g else X.β o j)=none
 rw[if_neg zo];exact hn j zo
 have hm:∀ o lo b1 ks vs',H' o=.mp lo b1 ks vs'->∃ vs,H o=.mp lo b1 ks vs/\vs'.length=vs.length/\∀ i (h1:i<vs.length) (h2:i<vs'.length),Rn a g b k vs[i] vs'[i]:=λo lo b1 ks vs' ho=>by
  rcases hH o with h|⟨rfl,c1,fz1,cs1,cs1',h1,_⟩|⟨_,_,h|⟨_,_,_,_,_,h1,_⟩|⟨_,_,_,vs,_,h1,h2,h3,h4⟩⟩
  rw[ho]at h;cases h;rw[ho]at h1;cases h1;exact⟨vs',by rw[<- h];exact ho,rfl,λi _ _=>.same _⟩;rw[ho]at h1;cases h1;rw[ho]at h1;cases h1;exact⟨vs,h2,h3,h4⟩
 intro o lo b1 ks vs' ho;obtain⟨vs,h1,h2,h3⟩:=hm _ _ _ _ _ ho;obtain⟨q1,q2,q3,es,n,q4,q5,q6,q7,q8⟩:=hI.mps _ _ _ _ _ h1;exact⟨q1,q2,λo2 lo2 ks2 vs2 q=>by obtain⟨vs3,q9,_⟩:=hm _ _ _ _ _ q;exact q3 _ _ _ _ q9,es,n,q4,q5,zo,λi p q=>(q7 i p q).mono hle,λi p q=>hrel _ _ _ (h3 i zo q) (q8 i p zo)⟩;refine Zmd (λo b r ho=>.inr (.inr ⟨o,r,hL _ _ _ ho⟩)) ?_;rintro bk ⟨o,c,j,fz,cs,bs,ho,hβ⟩;obtain⟨o0,j0,cs0,h1,h2,_⟩:=key _ _ _ _ _ ho;exact .inr (.inl ⟨o0,c,j0,fz,cs0,bs,h1,(h2 _).1 hβ⟩)
theorem AW.ren{c:Code}{Q:Exit->AS->Prop}{s:AS}(a g b:Nat)(hb:s.H b=.dead)
  (h:∀ k,∃ s':AS,(∀ t,s'.τ t=.top\/Rn a g b k (s.τ t) (s'.τ t))/\(∀ o,RnO a g b k s.H o (s'.H o))/\AW P E c Q s'):AW P E c Q s:=by
 rintro x w ⟨X,hX⟩;obtain⟨k,hk⟩:=Zo8 hX.go.inv a g b hb;obtain⟨s',h1,h2,h3⟩:=h k;obtain⟨Y,e,hg,hr⟩:=hk s'.H h2;refine h3 x w ⟨Y,by rw[e,hX.hw],hX.on_ hg,hX.df.go hX.go.inv hg,hX.sz,λt=>?_,λj=>(hX.gl j).go hX.go.inv hg⟩
 rcases h1 t with q|q
 rw[q];exact .top _;exact hr _ _ _ q (hX.tm t)
end
end Go.Hs
