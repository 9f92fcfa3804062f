/- A part. No condition. -/
import Derived.Test.YtoahejkahaimnaaGreatDoorP25
set_option linter.all false
namespace Go.Hs
section
variable{P:Program}{E:Ent}{s:AS}{a:Act}{w:World}
def InSp(P:Program)(G:Nat->V)(f:FuncId)(args:List V)(H:Heap)(K:V->Heap->Prop):Prop:=
 ∀ (X:Cx) (cargs:Array Value),Inv X H->(∀ g,RelG X g (G g))->RelA X cargs args ->
  Calls P f cargs X.w (λe w'=>∃ c v H' Y,e=.returned c/\Y.w=w'/\Goes X H Y H'/\Rel Y c v/\K v H')
theorem InSp.mono{G:Nat->V}{f:FuncId}{args:List V}{H:Heap}{K K':V->Heap->Prop}(h:InSp P G f args H K)(hk:∀ v H',K v H'->K' v H'):InSp P G f args H K':=
 λX cargs h1 h2 h3=>(h X cargs h1 h2 h3).mono λe w' ⟨c,v,H',Y,a1,a2,a3,a4,a5⟩=>⟨c,v,H',Y,a1,a2,a3,a4,hk _ _ a5⟩
theorem Zvt{G:Nat->V}{f:FuncId}{fn:Func}{c:Code}{args:List V}{H:Heap}{K:V->Heap->Prop}(q:Nat)(hf:P.funcs[f]?=some fn)(hb:fn.body=some c)(hn0:Nat.ble args.length fn.ntmps=true)
  (h:∀ X,AW P ⟨X,H,fn.ntmps,q,G,none,[],.plain⟩ c (Zeg P fn.results.toList K) ⟨Zve 0 args,H⟩):InSp P G f args H K:=
 λX _ hI hG hA=>(Znj (.inl rfl) (λh=>nomatch h) q hf hb hn0 hI hG hA (h X)).mono λe w' ⟨c,v,H',Y,a1,a2,a3,a4⟩=>by
  rcases a1 with ⟨a1,a5⟩|⟨k,hk,_⟩
  exact⟨c,v,H',Y,a1,a2,a3,a4,a5⟩;cases hk
theorem Z3a{G:Nat->V}{f:FuncId}{fn:Func}{c:Code}{args:List V}{H:Heap}{K:V->Heap->Prop}(q:Nat)(n:Nat)(rs:List ResultVar)(hf:P.funcs[f]?=some fn)(hb:fn.body=some c)(hn:fn.ntmps=n)(hr:fn.results.toList=rs)
  (hn0:Nat.ble args.length n=true) (h:∀ X,AW P ⟨X,H,n,q,G,none,[],.plain⟩ c (Zeg P rs K) ⟨Zve 0 args,H⟩):InSp P G f args H K:=by
 subst hn;subst hr;exact Zvt q hf hb hn0 h
def AObj.noMp:AObj->AObj
 |.mp ..=>.dead
 |x=>x
@[go_sem] theorem noMp_dead:AObj.noMp .dead=.dead:=rfl
@[go_sem] theorem noMp_cells(c:Col)(g fz:Nat)(cs:List V):AObj.noMp (.cells c g fz cs)=.cells c g fz cs:=rfl
theorem Z4la{x:AObj}{c:Col}{g fz:Nat}{cs:List V}(h:x.noMp=.cells c g fz cs):x=.cells c g fz cs:=by cases x<;>simp[AObj.noMp]at h⊢;exact h
theorem noMp_mp{x:AObj}{lo b:Nat}{ks vs:List V}(h:x.noMp=.mp lo b ks vs):False:=by cases x<;>simp[AObj.noMp]at h
theorem Zqfa{x:AObj}{b:Nat}{r:Loop}(h:x.noMp=.lp b r):x=.lp b r:=by cases x<;>simp[AObj.noMp]at h⊢;exact h
def only(D:Nat->Bool)(H:Heap):Heap:=λo=>if D o then H o else .dead
theorem Zps{D:Nat->Bool}{H:Heap}{o:Nat}{x:AObj}(ho:only D H o=x)(hx:x ≠ .dead):D o=true/\H o=x:=by
 simp only[only]at ho
 split at ho
 rename_i hd;exact⟨hd,ho⟩;exact absurd ho.symm hx
theorem Inv.only{X:Cx}{H:Heap}(hI:Inv X H)(D:Nat->Bool):Inv X (only D H):=(Goes.sub hI λo=>by
 simp only[Hs.only]
 split
 exact .inr rfl
 exact .inl rfl).inv
theorem Goes.frame{X Y:Cx}{H H' H'':Heap}(hI:Inv X H)(D:Nat->Bool)(hg:Goes X (only D H) Y H')(hH'':∀ o,H'' o=.dead\/H'' o=(H' o).noMp\/(D o=false/\H'' o=H o)):Goes X H Y H'':=by
 have hH1:∀ o c g fz cs,only D H o=.cells c g fz cs->D o=true/\H o=.cells c g fz cs:=λo c g fz cs ho=>Zps ho (λh=>nomatch h)
 have hLive:∀ b,LiveB X (only D H) b->LiveB X H b:=by
  refine Zmd (λo b r ho=>.inr ⟨o,r,(Zps ho (λh=>nomatch h)).2⟩) ?_;rintro b ⟨o,c,g,fz,cs,bs,ho,hb⟩;exact .inl ⟨o,c,g,fz,cs,bs,(hH1 _ _ _ _ _ ho).2,hb⟩
 have hrest:∀ o,D o=false->∀ c g fz cs b bs,H o=.cells c g fz cs->X.β o g=some (b,bs)->¬ LiveB X (only D H) b:=by
  rintro o hd c g fz cs b bs ho hb (⟨o',c',g',fz',cs',bs',ho',hb'⟩|⟨o',r',ho'⟩);rotate_left;have h1:=(hI.lps _ _ _ (Zps ho' (λh=>nomatch h)).2).1;obtain⟨b',bs',h2,_,c',t,h3,_⟩:=hI.obj _ _ _ _ _ ho;rw[hb]at h2;cases h2;rw[h1]at h3;cases h3;obtain⟨hd',h1⟩:=hH1 _ _ _ _ _ ho';have:=hI.inj _ _ _ _ _ _ _ _ _ _ _ _ _ ho h1 hb hb';subst this;rw[hd]at hd';cases hd'
 have hcase:∀ o c g fz cs,H'' o=.cells c g fz cs->H' o=.cells c g fz cs\/(D o=false/\H o=.cells c g fz cs):=by
  intro o c g fz cs ho
  rcases hH'' o with h1|h1|⟨h2,h3⟩
  rw[h1]at ho;cases ho;exact .inl (Z4la (by rw[<- h1];exact ho));exact .inr ⟨h2,by rw[<- h3];exact ho⟩
 have hkept:∀ o,D o=false->∀ c g fz cs,H o=.cells c g fz cs->∃ b bs,X.β o g=some (b,bs)/\Y.β o g=some (b,bs)/\b<X.w.heap.size/\Y.w.heap[b]?=X.w.heap[b]? := by
  intro o hd c g fz cs ho;obtain⟨b,bs,h2,_⟩:=hI.obj o c g fz cs ho;have hlt:=hI.lt ho h2;exact⟨b,bs,h2,hg.le.β _ _ _ h2,hlt,hg.kp.block b hlt (hrest o hd c g fz cs b bs ho h2)⟩
 have hlive':∀ o c g fz cs b bs,H' o=.cells c g fz cs->Y.β o g=some (b,bs)->X.w.heap.size<=b\/LiveB X (only D H) b:=λo c g fz cs b bs ho hb=>hg.on b (.inl ⟨o,c,g,fz,cs,bs,ho,hb⟩)
 have hSnZ:∀ b i,Y.S b i->X.S b i\/X.w.heap.size<=b\/LiveB X H b:=by
  intro b i hs
  rcases hg.Sn b i hs with h1|h1|h1
  exact .inl h1;exact .inr (.inl h1);exact .inr (.inr (hLive b h1))
 have hL2:∀ o b r,H'' o=.lp b r->H' o=.lp b r\/(D o=false/\H o=.lp b r/\b<X.w.heap.size/\¬ LiveB X (only D H) b):=λo b r ho=>by
  rcases hH'' o with h1|h1|⟨hd,h1⟩
  rw[h1]at ho;cases ho;exact .inl (Zqfa (by rw[<- h1];exact ho))
  have h2:H o=.lp b r:=by rw[<- h1];exact ho
  obtain⟨h3,h4⟩:=hI.lps _ _ _ h2;refine .inr ⟨hd,h2,(Array.getElem?_eq_some_iff.1 h3).1,?_⟩;rintro(⟨o',c',g',fz',cs',bs',ho',hb'⟩|⟨o',r',ho'⟩);obtain⟨b',bs',h5,_,c',t,h6,_⟩:=hI.obj _ _ _ _ _ (hH1 _ _ _ _ _ ho').2;rw[hb']at h5;cases h5;rw[h3]at h6;cases h6;obtain⟨hd',h5⟩:=Zps ho' (λh=>nomatch h);rw[h4 _ _ h5,hd]at hd';cases hd'
 have hLp:LpOk Y H'':=by
  intro o b r ho
  rcases hL2 _ _ _ ho with h1|⟨hd,h1,hlt,hn⟩
  obtain⟨h2,h3⟩:=hg.inv.lps _ _ _ h1;refine⟨h2,λo' r' ho'=>?_⟩
  rcases hL2 _ _ _ ho' with h4|⟨_,_,hlt,hn⟩
  exact h3 _ _ h4
  rcases hg.on b (.inr ⟨o,r,h1⟩)with q|q
  omega;exact absurd q hn;refine⟨(hg.kp.block b hlt hn).trans (hI.lps _ _ _ h1).1,λo' r' ho'=>?_⟩
  rcases hL2 _ _ _ ho' with h4|⟨_,h4,_,_⟩
  rcases hg.on b (.inr ⟨o',r',h4⟩)with q|q
  omega;exact absurd q hn;exact(hI.lps _ _ _ h1).2 _ _ h4
 refine⟨⟨?_,?_,?_,hg.inv.fin,hg.inv.bw,hg.inv.thaw,hI.mps_tr hg.le (λo lo b ks vs ho=>by
    rcases hH'' o with h1|h1|⟨_,h1⟩
    rw[h1]at ho;cases ho;rw[h1]at ho;exact(noMp_mp ho).elim
    rw[<- h1];exact ho) (hg.kp.mono λb _ hl=>hLive b hl) hSnZ,hLp⟩,hg.le,?_,?_,?_⟩
 intro o c g fz cs ho
 rcases hcase o c g fz cs ho with h1|⟨hd,h1⟩
 exact hg.inv.obj o c g fz cs h1;obtain⟨b,bs,h2,h3,h4,h5⟩:=hkept o hd c g fz cs h1;obtain⟨b',bs',h2',h6,c',t,h7,h8,h9⟩:=hI.obj o c g fz cs h1;rw[h2]at h2';cases h2';exact⟨b,bs,h3,by rw[hg.le.base];exact h6,c',t,by rw[h5];exact h7,h8,h9.mono hg.le⟩;intro o1 c1 g1 f1 l1 o2 c2 g2 f2 l2 b s1 s2 h1 h2 b1 b2
 rcases hcase _ _ _ _ _ h1 with h1|⟨hd1,h1⟩
 rcases hcase _ _ _ _ _ h2 with h2|⟨hd2,h2⟩
 exact hg.inv.inj _ _ _ _ _ _ _ _ _ _ _ _ _ h1 h2 b1 b2;obtain⟨b',bs',q1,q2,q3,q4⟩:=hkept o2 hd2 _ _ _ _ h2;rw[q2]at b2;cases b2
 rcases hlive' _ _ _ _ _ _ _ h1 b1 with q5|q5
 omega;exact absurd q5 (hrest o2 hd2 _ _ _ _ _ _ h2 q1);obtain⟨b',bs',q1,q2,q3,q4⟩:=hkept o1 hd1 _ _ _ _ h1;rw[q2]at b1;cases b1
 rcases hcase _ _ _ _ _ h2 with h2|⟨hd2,h2⟩
 rcases hlive' _ _ _ _ _ _ _ h2 b2 with q5|q5
 omega;exact absurd q5 (hrest o1 hd1 _ _ _ _ _ _ h1 q1);obtain⟨b'',bs'',p1,p2,p3,p4⟩:=hkept o2 hd2 _ _ _ _ h2;rw[p2]at b2;cases b2;exact hI.inj _ _ _ _ _ _ _ _ _ _ _ _ _ h1 h2 q1 p1;intro b i hs;have hs':=hg.inv.safe b i hs;refine⟨hs'.1,λo c g fz cs bs ho hb=>?_⟩
 rcases hcase _ _ _ _ _ ho with h1|⟨hd1,h1⟩
 exact hs'.2 _ _ _ _ _ _ h1 hb;obtain⟨b',bs',q1,q2,q3,q4⟩:=hkept o hd1 _ _ _ _ h1;rw[q2]at hb;cases hb
 rcases hg.Sn b i hs with q5|q5|q5
 exact(hI.safe b i q5).2 _ _ _ _ _ _ h1 q1;omega;exact absurd q5 (hrest o hd1 _ _ _ _ _ _ h1 q1);exact hg.kp.mono λb _ hl=>hLive b hl;intro b i hs
 rcases hg.Sn b i hs with h1|h1|h1
 exact .inl h1;exact .inr (.inl h1);exact .inr (.inr (hLive b h1));refine Zmd (λo b r ho=>?_) ?_
 rcases hL2 _ _ _ ho with h1|⟨_,h1,_⟩
 exact(hg.on b (.inr ⟨o,r,h1⟩)).imp id (hLive b);exact .inr (.inr ⟨o,r,h1⟩);rintro b ⟨o,c,g,fz,cs,bs,ho,hb⟩
 rcases hcase _ _ _ _ _ ho with h1|⟨hd1,h1⟩
 rcases hlive' _ _ _ _ _ _ _ h1 hb with q|q
 exact .inl q;exact .inr (hLive b q);obtain⟨b',bs',q1,q2,q3,q4⟩:=hkept o hd1 _ _ _ _ h1;rw[q2]at hb;cases hb;exact .inr (.inl ⟨o,c,g,fz,cs,bs,h1,q1⟩)
theorem InSp.frame{G:Nat->V}{f:FuncId}{args:List V}{H:Heap}{K:V->Heap->Prop}(D:Nat->Bool)(hen:Z2 P f=true)
  (h:InSp P G f args (only D H) (λv H'=>∃ H'',(∀ o,H'' o=.dead\/H'' o=(H' o).noMp\/(D o=false/\H'' o=H o))/\K v H'')):CallA P G f args H K:=
 ⟨hen,λX cargs hI hG hA=>(h X cargs (hI.only D) hG hA).mono λ_ _ ⟨c,v,_,Y,a1,a2,hg,hr,H'',hH'',hk⟩=>⟨c,v,H'',Y,a1,a2,hg.frame hI D hH'',hr,hk⟩⟩
theorem CallA.inl{G:Nat->V}{f:FuncId}{args:List V}{H:Heap}{K:V->Heap->Prop}(m:List (Nat×AObj))(hen:Z2 P f=true)(hm:∀ p∈m,H p.1=p.2)
  (h:InSp P G f args (Zfa Zk m) (λv H'=>K v (Zfa H (m.map λp=>(p.1,(H' p.1).noMp))))):CallA P G f args H K:=by
 refine InSp.frame (λo=>m.any (·.1==o)) hen ?_
 have e:only (λo=>m.any (·.1==o)) H=Zfa Zk m:=by
  funext o
  exact(Zjm id o m hm).symm
 rw[e];refine h.mono λv H' hk=>⟨_,λo=>?_,hk⟩;rw[Zim AObj.noMp o m]
 by_cases ho:m.any (·.1==o)=true
 rw[if_pos ho];exact .inr (.inl rfl);rw[if_neg ho];exact .inr (.inr ⟨Bool.eq_false_iff.2 ho,rfl⟩)
end
end Go.Hs
