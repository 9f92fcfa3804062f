/- A part. No condition. -/
import Derived.Test.YtjplgaebbfabnaaGreatDoorP24
set_option linter.all false
namespace Go.Hs
section
variable{P:Program}{E:Ent}{s:AS}{a:Act}{w:World}
def InSp(P:Program)(G:Nat->V)(f:FuncId)(args:List V)(H:Heap)(K:V->Heap->Prop):Prop:=
 ∀ (X:Cx) (cargs:Array Value),Inv X H->(∀ g,RelG X g (G g))->RelA X cargs args ->
  Calls P f cargs X.w (λe w'=>∃ c v H' Y,e=.returned c/\Y.w=w'/\Goes X H Y H'/\Rel Y c v/\K v H')
theorem InSp.mono{G:Nat->V}{f:FuncId}{args:List V}{H:Heap}{K K':V->Heap->Prop}(h:InSp P G f args H K)(b:∀ v H',K v H'->K' v H'):InSp P G f args H K':=
 λX a i g d=>(h X a i g d).mono λe w' ⟨c,v,H',Y,n,m,l,k,j⟩=>⟨c,v,H',Y,n,m,l,k,b _ _ j⟩
theorem A8{G:Nat->V}{f:FuncId}{a:Func}{c:Code}{args:List V}{H:Heap}{K:V->Heap->Prop}(q:Nat)(g:P.funcs[f]?=some a)(i:a.body=some c)(b:Nat.ble args.length a.ntmps=true)
  (h:∀ X,AW P ⟨X,H,a.ntmps,q,G,none,[],.plain⟩ c (T3 P a.results.toList K) ⟨Uy 0 args,H⟩):InSp P G f args H K:=
 λX _ j l m=>(Od (.inl rfl) (λh=>nomatch h) q g i b j l m (h X)).mono λe w' ⟨c,v,t,Y,d,s,r,p⟩=>by
  rcases d with ⟨d,o⟩|⟨k,n,_⟩
  grind
  grind
theorem Yr{G:Nat->V}{f:FuncId}{a:Func}{c:Code}{args:List V}{H:Heap}{K:V->Heap->Prop}(q:Nat)(n:Nat)(d:List ResultVar)(i:P.funcs[f]?=some a)(j:a.body=some c)(g:a.ntmps=n)(e:a.results.toList=d)
  (b:Nat.ble args.length n=true) (h:∀ X,AW P ⟨X,H,n,q,G,none,[],.plain⟩ c (T3 P d K) ⟨Uy 0 args,H⟩):InSp P G f args H K:=by
 subst g;subst e;exact A8 q i j b h
def AObj.noMp:AObj->AObj
 |.mp ..=>.dead
 |x=>x
@[go_sem] theorem noMp_dead:AObj.noMp .dead=.dead:=rfl
@[go_sem] theorem noMp_cells(c:Col)(g fz:Nat)(cs:List V):AObj.noMp (.cells c g fz cs)=.cells c g fz cs:=rfl
theorem Zz6{x:AObj}{c:Col}{g fz:Nat}{cs:List V}(h:x.noMp=.cells c g fz cs):x=.cells c g fz cs:=by cases x<;>simp[AObj.noMp]at h⊢;exact h
theorem Zzaa{x:AObj}{lo b:Nat}{ks vs:List V}(h:x.noMp=.mp lo b ks vs):False:=by cases x<;>simp[AObj.noMp]at h
theorem Zyx{x:AObj}{b:Nat}{r:Loop}(h:x.noMp=.lp b r):x=.lp b r:=by cases x<;>simp[AObj.noMp]at h⊢;exact h
def only(D:Nat->Bool)(H:Heap):Heap:=λo=>if D o then H o else .dead
theorem Er{D:Nat->Bool}{H:Heap}{o:Nat}{x:AObj}(a:only D H o=x)(b:x ≠ .dead):D o=true/\H o=x:=by
 simp only[only]at a
 grind
theorem Inv.only{X:Cx}{H:Heap}(a:Inv X H)(D:Nat->Bool):Inv X (only D H):=(Goes.sub a λo=>by
 simp only[Hs.only]
 grind).inv
theorem Goes.frame{X Y:Cx}{H H' z:Heap}(B:Inv X H)(D:Nat->Bool)(p:Goes X (only D H) Y H')(F:∀ o,z o=.dead\/z o=(H' o).noMp\/(D o=false/\z o=H o)):Goes X H Y z:=by
 have Q:∀ o c g e f,only D H o=.cells c g e f->D o=true/\H o=.cells c g e f:=λo c g e f d=>Er d (λh=>nomatch h)
 have m:∀ b,Xx X (only D H) b->Xx X H b:=by
  refine Uw (λo b r d=>.inr ⟨o,r,(Er d (λh=>nomatch h)).2⟩) ?_;rintro b ⟨o,c,g,e,f,v,d,A⟩;exact .inl ⟨o,c,g,e,f,v,(Q _ _ _ _ _ d).2,A⟩
 have s:∀ o,D o=false->∀ c g e f b v,H o=.cells c g e f->X.β o g=some (b,v)->¬ Xx X (only D H) b:=by
  rintro o L c g e f b v d A (⟨R,c',g',fz',cs',x,n,P⟩|⟨R,r',n⟩);rotate_left;have a:=(B.lps _ _ _ (Er n (λh=>nomatch h)).2).1;obtain⟨W,x,j,_,c',t,G,_⟩:=B.obj _ _ _ _ _ d;rw[A]at j;cases j;rw[a]at G;cases G;obtain⟨E,a⟩:=Q _ _ _ _ _ n;have:=B.inj _ _ _ _ _ _ _ _ _ _ _ _ _ d a A P;subst this;rw[L]at E;cases E
 have l:∀ o c g e f,z o=.cells c g e f->H' o=.cells c g e f\/(D o=false/\H o=.cells c g e f):=by
  intro o c g e f d
  rcases F o with a|a|⟨j,G⟩
  rw[a]at d;cases d;exact .inl (Zz6 (by rw[<- a];exact d));exact .inr ⟨j,by rw[<- G];exact d⟩
 have k:∀ o,D o=false->∀ c g e f,H o=.cells c g e f->∃ b v,X.β o g=some (b,v)/\Y.β o g=some (b,v)/\b<X.w.heap.size/\Y.w.heap[b]?=X.w.heap[b]? := by
  intro o L c g e f d;obtain⟨b,v,j,_⟩:=B.obj o c g e f d;have C:=B.lt d j;exact⟨b,v,j,p.le.β _ _ _ j,C,p.kp.block b C (s o L c g e f b v d j)⟩
 have u:∀ o c g e f b v,H' o=.cells c g e f->Y.β o g=some (b,v)->X.w.heap.size<=b\/Xx X (only D H) b:=λo c g e f b v d A=>p.on b (.inl ⟨o,c,g,e,f,v,d,A⟩)
 have hSnZ:∀ b i,Y.S b i->X.S b i\/X.w.heap.size<=b\/Xx X H b:=by
  intro b i T
  rcases p.Sn b i T with a|a|a
  exact .inl a;exact .inr (.inl a);exact .inr (.inr (m b a))
 have M:∀ o b r,z o=.lp b r->H' o=.lp b r\/(D o=false/\H o=.lp b r/\b<X.w.heap.size/\¬ Xx X (only D H) b):=λo b r d=>by
  rcases F o with a|a|⟨L,a⟩
  rw[a]at d;cases d;exact .inl (Zyx (by rw[<- a];exact d))
  have j:H o=.lp b r:=by rw[<- a];exact d
  obtain⟨G,N⟩:=B.lps _ _ _ j;refine .inr ⟨L,j,(Array.getElem?_eq_some_iff.1 G).1,?_⟩;rintro(⟨R,c',g',fz',cs',x,n,P⟩|⟨R,r',n⟩);obtain⟨W,x,U,_,c',t,h6,_⟩:=B.obj _ _ _ _ _ (Q _ _ _ _ _ n).2;rw[P]at U;cases U;rw[G]at h6;cases h6;obtain⟨E,U⟩:=Er n (λh=>nomatch h);rw[N _ _ U,L]at E;cases E
 have hLp:LpOk Y z:=by
  intro o b r d
  rcases M _ _ _ d with a|⟨L,a,C,hn⟩
  obtain⟨j,G⟩:=p.inv.lps _ _ _ a;refine⟨j,λR r' n=>?_⟩
  rcases M _ _ _ n with N|⟨_,_,C,hn⟩
  exact G _ _ N
  rcases p.on b (.inr ⟨o,r,a⟩)with q|q
  omega;exact absurd q hn;refine⟨(p.kp.block b C hn).trans (B.lps _ _ _ a).1,λR r' n=>?_⟩
  rcases M _ _ _ n with N|⟨_,N,_,_⟩
  rcases p.on b (.inr ⟨R,r',N⟩)with q|q
  omega;exact absurd q hn;exact(B.lps _ _ _ a).2 _ _ N
 refine⟨⟨?_,?_,?_,p.inv.fin,p.inv.bw,p.inv.thaw,B.mps_tr p.le (λo lo b ks vs d=>by
    rcases F o with a|a|⟨_,a⟩
    rw[a]at d;cases d;rw[a]at d;exact(Zzaa d).elim
    rw[<- a];exact d) (p.kp.mono λb _ hl=>m b hl) hSnZ,hLp⟩,p.le,?_,?_,?_⟩
 intro o c g e f d
 rcases l o c g e f d with a|⟨L,a⟩
 exact p.inv.obj o c g e f a;obtain⟨b,v,j,G,N,U⟩:=k o L c g e f a;obtain⟨W,x,h2',h6,c',t,h7,h8,h9⟩:=B.obj o c g e f a;rw[j]at h2';cases h2';exact⟨b,v,G,by rw[p.le.base];exact h6,c',t,by rw[U];exact h7,h8,h9.mono p.le⟩;intro o1 c1 g1 f1 l1 o2 c2 g2 f2 l2 b s1 s2 a j b1 V
 rcases l _ _ _ _ _ a with a|⟨y,a⟩
 rcases l _ _ _ _ _ j with j|⟨K,j⟩
 exact p.inv.inj _ _ _ _ _ _ _ _ _ _ _ _ _ a j b1 V;obtain⟨W,x,J,O,q3,q4⟩:=k o2 K _ _ _ _ j;rw[O]at V;cases V
 rcases u _ _ _ _ _ _ _ a b1 with I|I
 omega;exact absurd I (s o2 K _ _ _ _ _ _ j J);obtain⟨W,x,J,O,q3,q4⟩:=k o1 y _ _ _ _ a;rw[O]at b1;cases b1
 rcases l _ _ _ _ _ j with j|⟨K,j⟩
 rcases u _ _ _ _ _ _ _ j V with I|I
 omega;exact absurd I (s o1 y _ _ _ _ _ _ a J);obtain⟨b'',bs'',p1,p2,p3,p4⟩:=k o2 K _ _ _ _ j;rw[p2]at V;cases V;exact B.inj _ _ _ _ _ _ _ _ _ _ _ _ _ a j J p1;intro b i T;have hs':=p.inv.safe b i T;refine⟨hs'.1,λo c g e f v d A=>?_⟩
 rcases l _ _ _ _ _ d with a|⟨y,a⟩
 exact hs'.2 _ _ _ _ _ _ a A;obtain⟨W,x,J,O,q3,q4⟩:=k o y _ _ _ _ a;rw[O]at A;cases A
 rcases p.Sn b i T with I|I|I
 exact(B.safe b i I).2 _ _ _ _ _ _ a J;omega;exact absurd I (s o y _ _ _ _ _ _ a J);exact p.kp.mono λb _ hl=>m b hl;intro b i T
 rcases p.Sn b i T with a|a|a
 exact .inl a;exact .inr (.inl a);exact .inr (.inr (m b a));refine Uw (λo b r d=>?_) ?_
 rcases M _ _ _ d with a|⟨_,a,_⟩
 exact(p.on b (.inr ⟨o,r,a⟩)).imp id (m b);exact .inr (.inr ⟨o,r,a⟩);rintro b ⟨o,c,g,e,f,v,d,A⟩
 rcases l _ _ _ _ _ d with a|⟨y,a⟩
 rcases u _ _ _ _ _ _ _ a A with q|q
 exact .inl q;exact .inr (m b q);obtain⟨W,x,J,O,q3,q4⟩:=k o y _ _ _ _ a;rw[O]at A;cases A;exact .inr (.inl ⟨o,c,g,e,f,v,a,J⟩)
theorem InSp.frame{G:Nat->V}{f:FuncId}{args:List V}{H:Heap}{K:V->Heap->Prop}(D:Nat->Bool)(d:Z7 P f=true)
  (h:InSp P G f args (only D H) (λv H'=>∃ H'',(∀ o,H'' o=.dead\/H'' o=(H' o).noMp\/(D o=false/\H'' o=H o))/\K v H'')):CallA P G f args H K:=
 ⟨d,λX a e k l=>(h X a (e.only D) k l).mono λ_ _ ⟨c,v,_,Y,n,m,j,g,H'',b,i⟩=>⟨c,v,H'',Y,n,m,j.frame e D b,g,i⟩⟩
theorem CallA.inl{G:Nat->V}{f:FuncId}{args:List V}{H:Heap}{K:V->Heap->Prop}(m:List (Nat×AObj))(a:Z7 P f=true)(b:∀ p∈m,H p.1=p.2)
  (h:InSp P G f args (Z5 Zj m) (λv H'=>K v (Z5 H (m.map λp=>(p.1,(H' p.1).noMp))))):CallA P G f args H K:=by
 refine InSp.frame (λo=>m.any (·.1==o)) a ?_
 have e:only (λo=>m.any (·.1==o)) H=Z5 Zj m:=by
  funext o
  exact(Jr id o m b).symm
 rw[e];refine h.mono λv H' c=>⟨_,λo=>?_,c⟩;rw[Jp AObj.noMp o m]
 grind
end
end Go.Hs
