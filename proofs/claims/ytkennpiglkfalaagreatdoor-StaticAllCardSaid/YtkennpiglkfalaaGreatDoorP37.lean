/- A part. No condition. -/
import Derived.Test.YtkennpiglkfalaaGreatDoorP24
import Derived.Test.YtkennpiglkfalaaGreatDoorP26
import Derived.RangeFuncNested
set_option linter.all false
open Bool renaming false->ab,true->ad
open Option renaming some->ae,none->ah
open Go.Deferred renaming ofValue->aU
open Go.Result renaming andThen_ok->aB
open Go.RowKit.Below renaming heap_alloc->aV
open Go.World renaming alloc_heap_new->aW,putObj->aX,putObj_heap_other->al,putObj_heap_same->aY,putObj_size->an
namespace Go.Hs
section
variable{P:Program}{E:BX}{s:AS}{a:Act}{w:World}
def InSp(P:Program)(G:Nat->V)(f:FuncId)(args:List V)(H:A')(K:V->A'->Prop):Prop:=
 ∀ X cargs,BZ X H->(∀ g,FI X g (G g))->FA X cargs args ->
  Calls P f cargs X.w (λe w'=>∃ c v H' Y,e=.returned c/\Y.w=w'/\BH X H Y H'/\AI Y c v/\K v H')
def InSp.mono{G f args H K K'}(h:InSp P G f args H K)(b:∀ v H',K v H'->K' v H'):InSp P G f args H K':=
 λX a g h2 d=>(h X _ g h2 d).mono λe w' ⟨c,v,H',Y,m,l,k,j,i⟩=>⟨c,v,H',Y,m,l,k,j,b _ _ i⟩
def yx{G f fn c args H K}(q)(d:P.funcs[f]?=ae fn)(g:fn.body=ae c)(a:Nat.ble args.length fn.ntmps=ad)(h:∀ X,AW P ⟨X,H,fn.ntmps,q,G,ah,[],.plain⟩ c (Rf P fn.results.toList K) ⟨Tq 0 args,H⟩):InSp P G f args H K:=
 λX _ i j l=>(Kx (.inl rfl) (λh=>nomatch h) q d g a i j l (h X)).mono λe w' ⟨c,v,s,Y,b,r,p,o⟩=>by rcases b with ⟨b,n⟩|⟨k,m,_⟩;grind;grind
def Wx{G f fn c args H K}(q)(n:Nat)(rs)(e:P.funcs[f]?=ae fn)(g:fn.body=ae c)(d:fn.ntmps=n)(b:fn.results.toList=rs)(a:Nat.ble args.length n=ad)(h:∀ X,AW P ⟨X,H,n,q,G,ah,[],.plain⟩ c (Rf P rs K) ⟨Tq 0 args,H⟩):InSp P G f args H K:=by subst d;subst b;exact yx q e g a h
def BL.noMp:BL->BL
 |.mp ..=>.AR|x=>x
@[go_sem] def AD_:BL.noMp .AR=.AR:=rfl
@[go_sem] def AD8(c g fz cs):BL.noMp (.cells c g fz cs)=.cells c g fz cs:=rfl
def AA_{x:BL}{c g fz cs}(h:x.noMp=.cells c g fz cs):x=.cells c g fz cs:=by cases x<;>simp[BL.noMp]at h⊢;exact h
def AAL{x:BL}{lo b ks vs}(h:x.noMp=.mp lo b ks vs):False:=by cases x<;>simp[BL.noMp]at h
def iZ{x:BL}{b r}(h:x.noMp=.lp b r):x=.lp b r:=by cases x<;>simp[BL.noMp]at h⊢;exact h
def only(D:Nat->Bool)(H:A'):A':=λo=>if D o then H o else .AR
def Al{D H o x}(a:only D H o=x)(b:x ≠ .AR):D o=ad/\H o=x:=by simp only[only]at a;grind
def BZ.only{X H}(a:BZ X H)(D):BZ X (only D H):=(TB a λo=>by simp only[Hs.only];grind).BJ
def BH.frame{X Y H H' H''}(z:BZ X H)(D)(n:BH X (only D H) Y H')(C:∀ o,H'' o=.AR\/H'' o=(H' o).noMp\/(D o=ab/\H'' o=H o)):BH X H Y H'':=by
 have O:∀ o c g e f,only D H o=.cells c g e f->D o=ad/\H o=.cells c g e f:=λo c g e f d=>Al d (λh=>nomatch h);have l:∀ b,Wk X (only D H) b->Wk X H b:=by refine Ue (λo b r d=>.inr ⟨o,r,(Al d (λh=>nomatch h)).2⟩) ?_;rintro b ⟨o,c,g,e,f,v,d,y⟩;exact .inl ⟨o,c,g,e,f,v,(O _ _ _ _ _ d).2,y⟩
 have p:∀ o,D o=ab->∀ c g e f b v,H o=.cells c g e f->X.β o g=ae (b,v)->¬Wk X (only D H) b:=by rintro o J c g e f b v d y (⟨P,c',g',fz',cs',u,m,N⟩|⟨P,r',m⟩);rotate_left;have a:=(z.IA _ _ _ (Al m (λh=>nomatch h)).2).1;obtain⟨U,u,h2,_,c',t,E,_⟩:=z.DQ _ _ _ _ _ d;rw[y]at h2;cases h2;rw[a]at E;cases E;obtain⟨B,a⟩:=O _ _ _ _ _ m;have:=z.inj _ _ _ _ _ _ _ _ _ _ _ _ _ d a y N;subst this;rw[J]at B;cases B
 have k:∀ o c g e f,H'' o=.cells c g e f->H' o=.cells c g e f\/(D o=ab/\H o=.cells c g e f):=by intro o c g e f d;rcases C o with a|a|⟨h2,E⟩;rw[a]at d;cases d;exact .inl (AA_ (by rw[<- a];exact d));exact .inr ⟨h2,by rw[<- E];exact d⟩
 have j:∀ o,D o=ab->∀ c g e f,H o=.cells c g e f->∃ b v,X.β o g=ae (b,v)/\Y.β o g=ae (b,v)/\b<X.w.heap.size/\Y.w.heap[b]?=X.w.heap[b]? := by intro o J c g e f d;obtain⟨b,v,h2,_⟩:=z.DQ o c g e f d;have A:=z.lt d h2;exact⟨b,v,h2,n.le.β _ _ _ h2,A,n.kp.block b A (p o J c g e f b v d h2)⟩
 have s:=λo c g e f b v d y=>n.on b (.inl ⟨o,c,g,e,f,v,d,y⟩);have W:∀ b i,Y.S b i->X.S b i\/X.w.heap.size<=b\/Wk X H b:=by intro b i Q;rcases n.Sn b i Q with a|a|a;exact .inl a;exact .inr (.inl a);exact .inr (.inr (l b a))
 have K:∀ o b r,H'' o=.lp b r->H' o=.lp b r\/(D o=ab/\H o=.lp b r/\b<X.w.heap.size/\¬Wk X _ b):=λo b r d=>by
  rcases C o with a|a|⟨J,a⟩;rw[a]at d;cases d;exact .inl (iZ (by rw[<- a];exact d));have h2:H o=.lp b r:=by rw[<- a];exact d
  obtain⟨E,L⟩:=z.IA _ _ _ h2;refine .inr ⟨J,h2,(DB.1 E).1,?_⟩;rintro(⟨P,c',g',fz',cs',u,m,N⟩|⟨P,r',m⟩);obtain⟨U,u,R,_,c',t,h6,_⟩:=z.DQ _ _ _ _ _ (O _ _ _ _ _ m).2;rw[N]at R;cases R;rw[E]at h6;cases h6;obtain⟨B,R⟩:=Al m (λh=>nomatch h);rw[L _ _ R,J]at B;cases B
 have hLp:LpOk Y H'':=by intro o b r d;rcases K _ _ _ d with a|⟨J,a,A,hn⟩;obtain⟨h2,E⟩:=n.BJ.IA _ _ _ a;refine⟨h2,λP r' m=>?_⟩;rcases K _ _ _ m with L|⟨_,_,A,hn⟩;exact E _ _ L;rcases n.on b (.inr ⟨o,r,a⟩)with q|q;omega;exact absurd q hn;refine⟨(n.kp.block b A hn).trans (z.IA _ _ _ a).1,λP r' m=>?_⟩;rcases K _ _ _ m with L|⟨_,L,_,_⟩;rcases n.on b (.inr ⟨P,r',L⟩)with q|q;omega;exact absurd q hn;exact(z.IA _ _ _ a).2 _ _ L
 refine⟨⟨?_,?_,?_,n.BJ.CK,n.BJ.bw,n.BJ.IM,z.mps_tr n.le (λo lo b ks vs d=>by rcases C o with a|a|⟨_,a⟩;rw[a]at d;cases d;rw[a]at d;exact(AAL d).elim;rw[<- a];exact d) (n.kp.mono λb _ hl=>l b hl) W,hLp⟩,n.le,?_,?_,?_⟩
 intro o c g e f d;rcases k o c g e f d with a|⟨J,a⟩;exact n.BJ.DQ o c g e f a;obtain⟨b,v,h2,E,L,R⟩:=j o J c g e f a;obtain⟨U,u,h2',h6,c',t,h7,h8,h9⟩:=z.DQ o c g e f a;rw[h2]at h2';cases h2';exact⟨b,v,E,by rw[n.le.base];exact h6,c',t,by rw[R];exact h7,h8,h9.mono n.le⟩;intro o1 c1 g1 f1 l1 o2 c2 g2 f2 l2 b s1 s2 a h2 b1 T;rcases k _ _ _ _ _ a with a|⟨x,a⟩;rcases k _ _ _ _ _ h2 with h2|⟨I,h2⟩;exact n.BJ.inj _ _ _ _ _ _ _ _ _ _ _ _ _ a h2 b1 T;obtain⟨U,u,G,M,q3,q4⟩:=j o2 I _ _ _ _ h2;rw[M]at T;cases T;rcases s _ _ _ _ _ _ _ a b1 with F|F;omega;exact absurd F (p o2 I _ _ _ _ _ _ h2 G);obtain⟨U,u,G,M,q3,q4⟩:=j o1 x _ _ _ _ a;rw[M]at b1;cases b1;rcases k _ _ _ _ _ h2 with h2|⟨I,h2⟩;rcases s _ _ _ _ _ _ _ h2 T with F|F;omega;exact absurd F (p o1 x _ _ _ _ _ _ a G);obtain⟨b'',bs'',p1,p2,p3,p4⟩:=j o2 I _ _ _ _ h2;rw[p2]at T;cases T;exact z.inj _ _ _ _ _ _ _ _ _ _ _ _ _ a h2 G p1;intro b i Q;have V:=n.BJ.DD b i Q;refine⟨V.1,λo c g e f v d y=>?_⟩;rcases k _ _ _ _ _ d with a|⟨x,a⟩;exact V.2 _ _ _ _ _ _ a y;obtain⟨U,u,G,M,q3,q4⟩:=j o x _ _ _ _ a;rw[M]at y;cases y;rcases n.Sn b i Q with F|F|F;exact(z.DD b i F).2 _ _ _ _ _ _ a G;omega;exact absurd F (p o x _ _ _ _ _ _ a G);exact n.kp.mono λb _ hl=>l b hl;intro b i Q;rcases n.Sn b i Q with a|a|a;exact .inl a;exact .inr (.inl a);exact .inr (.inr (l b a));refine Ue (λo b r d=>?_) ?_;rcases K _ _ _ d with a|⟨_,a,_⟩;exact(n.on b (.inr ⟨o,r,a⟩)).imp id (l b);exact .inr (.inr ⟨o,r,a⟩);rintro b ⟨o,c,g,e,f,v,d,y⟩;rcases k _ _ _ _ _ d with a|⟨x,a⟩;rcases s _ _ _ _ _ _ _ a y with q|q;exact .inl q;exact .inr (l b q);obtain⟨U,u,G,M,q3,q4⟩:=j o x _ _ _ _ a;rw[M]at y;cases y;exact .inr (.inl ⟨o,c,g,e,f,v,a,G⟩)
def InSp.frame{G f args H K}(D)(b:Yf P f=ad)(h:InSp P G f args (only D H) (λv H'=>∃ H'',(∀ o,H'' o=.AR\/H'' o=(H' o).noMp\/(D o=ab/\H'' o=H o))/\K v H'')):CallA P G f args H K:=
 ⟨b,λX d e k l=>(h X _ (e.only D) k l).mono λ_ _ ⟨c,v,_,Y,n,m,j,g,H'',a,i⟩=>⟨c,v,H'',Y,n,m,j.frame e D a,g,i⟩⟩
def CallA.inl{G f args H K}(m)(a:Yf P f=ad)(b:∀ p∈m,H p.1=p.2)(h:InSp P G f args (Yb Zm m) (λv H'=>K v (Yb H (m.map λp=>(p.1,(H' p.1).noMp))))):CallA P G f args H K:=by
 refine InSp.frame (λo=>m.any (·.1==o)) a ?_;have e:only (λo=>m.any (·.1==o)) H=Yb Zm m:=by funext o;exact(Fj id o m b).symm
 rw[e];refine h.mono λv H' c=>⟨_,λo=>?_,c⟩;rw[Fh _ o m];grind
abbrev HO:=@CallA.inl
end
section
variable{P:Program}{E:BX}
def Yi(lo:Nat)(H:A'):A':=λo=>if lo<=o then(H o).noMp else .AR
def V8{lo o H}(h:lo<=o):Yi lo H o=(H o).noMp:=AF h
def W6{lo o H}(h:o<lo):Yi lo H o=.AR:=AA zo
def N9(x:BL):x.noMp.noMp=x.noMp:=by cases x<;>rfl
def Lm{lo H H'}(h:∀ o,lo<=o->(H o).noMp=(H' o).noMp):Yi lo H=Yi lo H':=by funext o;rcases GG o lo with q|q;rw[W6 q,W6 q];rw[V8 q,V8 q,h o q]
@[go_sem] def Jj(lo o)(H:A')(x):Yi lo (Ye H o x)=if lo<=o then Ye (Yi lo H) o x.noMp else Yi lo H:=by funext o';split;rename_i h;by_cases e:o'=o;subst e;rw[V8 h,Ys,Ys];rw[Zy _ _ e];rcases GG o' lo with q|q;rw[W6 q,W6 q];rw[V8 q,V8 q,Zy _ _ e];rcases GG o' lo with q|q;rw[W6 q,W6 q];rw[V8 q,V8 q,Zy _ _ zo]
def Mb{a lo}(H)(h:a<=lo):Yi lo (Yi a H)=Yi lo H:=Lm λo q=>by rw[V8 (CT h q),N9]
@[go_sem] def Dy(lo H):Yi lo (Yi lo H)=Yi lo H:=Mb H ql
@[go_sem] def AD6(lo):Yi lo Zm=Zm:=by funext o;unfold Yi;split<;>rfl
def VR(lo:Nat)(H:A'):A':=λo=>if lo<=o then(H o).noMp else H o
def jy{X H}(a:BZ X H)(lo):BH X H X (VR lo H):=TB a λo=>by
 unfold VR;split;cases h:H o<;>first|exact .inr rfl|exact .inl rfl
 grind
def ZN{X H}(a:BZ X H)(lo):BH X H X (Yi lo H):=TB a λo=>by
 unfold Yi;split;cases h:H o<;>first|exact .inr rfl|exact .inl rfl
 grind
def low(lo:Nat)(H H':A'):A':=λo=>if lo<=o then(H' o).noMp else H o
def Mc{X Y lo H H'}(b:BZ X H)(a:BH X (Yi lo H) Y H'):BH X H Y (low lo H H'):=by
 have e:Yi lo H=only (Nat.ble lo) (VR lo H):=by funext o;unfold Yi only VR;simp_all
 rw[e]at a;refine(jy b lo).trans (a.frame (jy b lo).BJ _ λo=>?_);unfold low;split;simp;rename_i h;exact .inr (.inr ⟨by rw[FV,ne_eq,WM];exact h,(AA h).symm⟩)
def od(lo H H'):Yi lo (low lo H H')=Yi lo H':=Lm λo q=>by rw[low,AF q,N9]
def CallT(P:Program)(t:Fn)(cargs:Array Value)(w:World)(R:Ending->World->Prop):Prop:=match t with|.func f=>Yf P f=ad/\Calls P f cargs w R|.yield l=>YieldAt Fence.wide 0 P l cargs w R|_=>False
def CallT.mono{t cargs w R R'}(h:CallT P t cargs w R)(c:∀ e w,R e w->R' e w):CallT P t cargs w R':=by cases t with|func f=>exact⟨h.1,h.2.mono c⟩|yield l=>have⟨i,b,a,body,d,g⟩:=h;exact⟨i,b,a,body,d,g.mono c⟩|_=>exact h.elim
structure Yd(P:Program)(G:Nat->V)(X:Cx)(lo:Nat){σ κ:Type}(t:Fn)(caps:List V)(enc:κ->List V)(R:σ->A'->Prop)(dom:σ->κ->Prop)(nx:σ->κ->Bool × σ):Prop where
 cap:∀ l,t=.yield l->caps=[]
 sp:∀ s k Y H cargs,dom s k->X.le Y->BZ Y (Yi lo H)->R s (Yi lo H)->(∀ g,FI Y g (G g))->FA Y cargs (enc k++caps) ->
  CallT P t cargs Y.w (λe w'=>∃ Z H',e=.returned (.bool (nx s k).1)/\Z.w=w'/\BH Y (Yi lo H) Z H'/\R (nx s k).2 (Yi lo H'))
def Yd.at{G X X' lo σ κ t caps enc R dom}{c:σ->κ->Bool × σ}(h:Yd P G X lo t caps enc R dom c)(a:X.le X'):Yd P G X' lo t caps enc R dom c:=
 ⟨h.cap,λs k Y H b e d=>h.sp s k Y H _ e (a.trans d)⟩
def Y4{σ κ:Type}(nx:σ->κ->Bool × σ): σ->List κ->Bool × σ
 |s,[]=>(ad,s)|s,k::r=>if(nx s k).1 then Y4 nx (nx s k).2 r else(ab,(nx s k).2)
def Oo{σ κ:Type}(dom:σ->κ->Prop)(nx:σ->κ->Bool × σ): σ->List κ->Prop
 |_,[]=>True|s,k::r=>dom s k/\((nx s k).1=ad->Oo dom nx (nx s k).2 r)
def j0{ops:Array Oper}{R st}{K:AS->Prop}{X a}{dst:Option Nat}{f args ats ty pos af gd t caps}(hX:EF E X st a X.w)(hd:(ops.all (W4 E.n))=ad){n:Nat}(ho:ops[n]?=ae ⟨dst,.call ⟨.value f,args,ats⟩,ty,pos,af,gd⟩)(hf:st.ev E f=.func t [] caps)(hcap:∀ l,t=.yield l->caps=[])(h:∀ cargs,FA X cargs (args.toList.map (st.ev E)++caps)->CallT P t cargs X.w (λe w'=>∃ c v Y H',e=.returned c/\Y.w=w'/\BH X st.H Y H'/\AI Y c v/\K (AS.put {st with H:=H'} dst v))):(⟨dst,.call ⟨.value f,args,ats⟩,ty,pos,af,gd⟩:Oper).wpIn E.rk.F 0 P a X.w (λa' w'=>∃ s2,Ng E s2 a' w'/\K s2) R:=by
 refine⟨λ_ _=>trivial,?_⟩;rw[Oper.semAt_eq _ _ _ (λ_ h=>by cases h)];have hfv:=hX.ev f;rw[hf]at hfv;generalize hq:a.eval f=q at hfv;cases hfv with
 |func _ xs ys _ _ hx hy hxr hyr=>
  have hx0:xs = #[]:=by have:xs.size=0:=hx;exact VV this
  subst hx0;have hA:FA X (args.map a.eval++ys) (args.toList.map (st.ev E)++caps):=by refine⟨by simp[hy],λi h1 h2=>?_⟩;by_cases hi:i<args.size;rw[PV (zu hi),OV (zu hi)];simp only[VW,FG,SY];exact hX.ev _;rw[SX zO,QI zO];simp only[bW,BC,IW];exact hyr _ _ _
  have hk:=h _ hA;have hdm:∀ d,dst=ae d->d<E.n:=by intro d hdst;rw[KF]at hd;have⟨hlt,e⟩:=DB.1 ho;have:=hd _ (MB hlt);rw[e]at this;simp only[W4,hdst]at this;simpa using this
  have CK:∀ (e:Ending) (w'),(∃ c v Y H',e=.returned c/\Y.w=w'/\BH X st.H Y H'/\AI Y c v/\K (AS.put {st with H:=H'} dst v)) ->
    (match e,w' with|.returned v,w''=>∃ s2,Ng E s2 (a.put dst v) w''/\K s2|.panicked chain,w''=>R (.panic chain) a w''|.outgrown,_=>LetsOut R):=by
   rintro e w' ⟨c,v,Y,H',rfl,rfl,hg,hr,hK⟩;exact⟨_,⟨Y,hX.step hg hr hdm⟩,hK⟩
  cases t with
  |func fid=>
   have⟨hen,hk⟩:=hk;have hrun:(execOp a.eval ⟨dst,.call ⟨.value f,args,ats⟩,ty,pos,af,gd⟩).run P X.w=.ok (.enter fid (args.map a.eval++ys)) X.w:=by
    unfold Yf at hen;split at hen;rename_i fn hfn;simp only[BP]at hen;have⟨hn1,hn2⟩:=hen;have hn1':(fn.name == "runtime.NumGoroutine")=ab:=zu hn1;have hn2':fn.body.isNone=ab:=by cases hb:fn.body<;>simp_all
    simp only[execOp,resolve,hq,aU,Sem.run_bind,Sem.run_pure,aB,invoke,callFunc,run_program,hfn,hn1',hn2'];simp;simp at hen
   rw[hrun,Oper.uponIn_enter];exact⟨λh=>(by cases h),(E.rk.calls).2 (hk.mono CK)⟩
  |yield l=>
   have⟨fn,tmps,assign,body,hy2,hR⟩:=hk;obtain rfl:=hcap l rfl;have hy0:=VV hy;subst hy0;have hrun:(execOp a.eval ⟨dst,.call ⟨.value f,args,ats⟩,ty,pos,af,gd⟩).run P X.w=.ok (.round l fn tmps assign body) X.w:=by rw[Array.append_empty]at hy2;simp only[execOp,resolve,hq,aU,Sem.run_bind,Sem.run_pure,aB,invoke,bT,hy2]
   rw[hrun,Oper.uponIn_round];exact⟨λh=>(by cases h),hR.mono CK⟩
  |_=>exact hk.elim
def qT{X:Cx}(o):X.le {X with w:=X.w.alloc o}:=
 ⟨λ_ _ _ h=>h,λ_ _ h=>h,λb i x _ d=>(World.cell?_alloc_lt _ o _ (World.block_lt_of_cell? _ _ d)).trans d,rfl,
  λb c t a=>⟨c,(aV _ _ _ (DB.1 a).1).trans a,rfl⟩,λb e n _ a=>(aV _ _ _ (DB.1 a).1).trans a⟩
def YJ{X H}(a:BZ X H)(o):BH X H {X with w:=X.w.alloc o} H:=by have d:=qT (X:=X) o;have f:E_ (Wk X H) X.w (X.w.alloc o):=⟨rfl,rfl,rfl,zS,λk p _=>aV _ _ _ p⟩;refine⟨⟨?_,a.inj,λb i e=>⟨GU (a.DD b i e).1 zS,(a.DD b i e).2⟩,a.CK,CT a.bw zS,a.thaw_le d λ_ _ e=>e,a.mps_tr d (λ_ _ _ _ _ h=>h) f λ_ _ e=>.inl e,a.lps_tr (λ_ _ _ h=>h) λb r j=>aV _ _ _ (DB.1 j).1⟩,d,f,λ_ _ e=>.inl e,λ_ j=>.inr j⟩;intro n c g y z l;have⟨b,x,m,h2,v,t,u,s,q⟩:=a.DQ _ _ _ _ _ l;exact⟨b,x,m,h2,v,t,(aV _ _ _ (a.lt l m)).trans u,s,q.mono d⟩
def BH.newLp{X0 X H0 H}(h:BH X0 H0 X H){l ol r}(I:X.w.heap[l]?=ae (.loop r))(v:X0.w.heap.size<=l\/Wk X0 H0 l)(p:∀ o r,o≠ol->H o=.lp l r->False):BH X0 H0 X (Ye H ol (.lp l r)):=by
 have d:=h.BJ;have s:∀ o c g f j,Ye H ol (.lp l r) o=.cells c g f j->H o=.cells c g f j:=λo c g f j a=>by by_cases e:o=ol;simp_all;rwa [Zy _ _ e]at a
 have u:∀ o b k,Ye H ol (.lp l r) o=.lp b k->(o=ol/\b=l/\k=r)\/(o≠ol/\H o=.lp b k):=λo b k a=>by by_cases e:o=ol;simp_all;rw[Zy _ _ e]at a;grind
 refine⟨⟨λo c g f j a=>d.DQ _ _ _ _ _ (s _ _ _ _ _ a),λC P L N F B O K M E b z y n h2=>d.inj C P L N F B O K M E b z y (s _ _ _ _ _ n) (s _ _ _ _ _ h2),
  λb i t=>⟨(d.DD b i t).1,λo c g f j x a=>(d.DD b i t).2 o c g f j x (s _ _ _ _ _ a)⟩,d.CK,d.bw,d.IM,d.mps_tr (.refl X) (λo R b S Q a=>?_) (QA _ _) (λ_ _ t=>.inl t),?_⟩,h.le,h.kp,h.Sn,Ue (λo b k a=>?_) λb ⟨o,c,g,f,j,x,a,G⟩=>h.on b (.inl ⟨o,c,g,f,j,x,s _ _ _ _ _ a,G⟩)⟩
 by_cases e:o=ol;simp_all;rwa [Zy _ _ e]at a;intro o b k a;rcases u _ _ _ a with ⟨rfl,rfl,rfl⟩|⟨e,n⟩;refine⟨I,λD A m=>?_⟩;rcases u _ _ _ m with ⟨q,_⟩|⟨q,h2⟩;exact q;exact(p _ _ q h2).elim;have⟨h2,J⟩:=d.IA _ _ _ n;refine⟨h2,λD A m=>?_⟩;rcases u _ _ _ m with ⟨_,rfl,_⟩|⟨_,q⟩;exact(p _ _ e n).elim;exact J _ _ q;rcases u _ _ _ a with ⟨_,rfl,_⟩|⟨_,n⟩;exact v;exact h.on b (.inr ⟨o,k,n⟩)
def Cs{X Y H H'}(F:BZ X H)(h:BH X H Y H'){b o o'}(z:X.w.heap[b]?=ae o)(A:Sc o=ad)(j:Sc o'=ad)(B:¬Wk X H b):BH {X with w:=X.w.putObj b o'} H {Y with w:=Y.w.putObj b o'} H':=by
 have a:=(DB.1 z).1;have y:=(h.kp.block b a B).trans z;have u:∀ n r,H' n=.lp b r->False:=λn r s=>by rcases h.on b (.inr ⟨n,r,s⟩)with q|q;omega;grind
 have C:=BH.turn (X0:={Y with w:={Y.w with heap:=#[]} }) (H0:=H') ⟨h.BJ,⟨λ_ _ _ h=>h,λ_ _ h=>h,λ_ _ _ _ f=>by simp[Cx.cell,World.cell?]at f,rfl,λ_ _ _ f=>by grind,λ_ _ _ _ f=>by grind⟩,⟨rfl,rfl,rfl,zS,λk d _=>by grind⟩,λ_ _ g=>.inl g,λ_ _=>.inl zS⟩ y A j (.inl zS) (λ_=>.inl rfl) (λn r s=>(u n r s).elim);have p:∀ {k} {o1},Sc o1=ab->(X.w.putObj b o').heap[k]?=ae o1->k≠b:=λm h2 e=>by subst e;rw[aY a]at h2;cases h2;rw[j]at m;cases m
 have l:∀ {k i} {x},(X.w.putObj b o').cell? ⟨k,i,ah⟩=ae x->k≠b:=λf e=>by subst e;unfold World.cell? at f;rw[aY a]at f;cases o'<;>simp[Sc]at j f
 refine⟨C.BJ,⟨h.le.β,h.le.S,λk i x g f=>?_,h.le.base,λk c t d=>?_,λk D n g d=>?_⟩,⟨h.kp.os,h.kp.tape,h.kp.output,by simp only[an];exact h.kp.size,λk d v=>?_⟩,λk i g=>by simp only[an];exact h.Sn k i g,λk d=>by simp only[an];exact h.on k d⟩;have e:=l f;have m:X.cell k i=ae x:=by show X.w.cell? _=_;rw[<- World.cell?_of_block (al e)];exact f
 have h2:=h.le.cell k i x g m;show(Y.w.putObj b o').cell? _=_;rw[World.cell?_of_block (al e)];exact h2;have e:=p rfl d;have⟨E,m,h2⟩:=h.le.blk k c t ((al e).symm.trans d);exact⟨E,(al e).trans m,h2⟩;have e:=p rfl d;exact(al e).trans (h.le.map k D n g ((al e).symm.trans d));simp only[an]at d;by_cases e:k=b;subst e;rw[aY a,aY (GU a h.kp.size)];exact(al e).trans ((h.kp.block k d v).trans (al e).symm)
def MT:List Nat->List V->(Nat->V)->Nat->V
 |p::ps,v::vs,τ => MT ps vs (Ye τ p v)|_,_,τ => τ
def jK{X}:∀ ps cs vs tmps τ,cs.length=ps.length->vs.length=ps.length->(∀ p∈ps,p<tmps.size)->(∀ i h1 (h2:i<vs.length),AI X cs[i] vs[i])->(∀ t,AI X (tmps.getD t undef) (τ t)) ->
  (((ps.zip cs).foldl (fun(tmps:Array Value) p=>tmps.setIfInBounds p.1 p.2) tmps).size=tmps.size/\∀ t,AI X (((ps.zip cs).foldl (fun(tmps:Array Value) p=>tmps.setIfInBounds p.1 p.2) tmps).getD t undef) (MT ps vs τ t))
 |[],_,_,_,_,_,_,_,_,ht=>⟨rfl,ht⟩|p::ps,[],_,_,_,h1,_,_,_,_=>by grind|p::ps,_::_,[],_,_,_,h2,_,_,_=>by grind|p::ps,c::cs,v::vs,tmps,τ,h1,h2,hp,hr,ht=>by
  have:=jK ps cs vs (tmps.setIfInBounds p c) (Ye τ p v) zG zG (λx d=>by grind) (λi b a=>hr (i+1) zG zG) (λt=>?_);simp only[List.zip_cons_cons,QF];exact⟨by grind,this.2⟩;by_cases e:t=p;subst e;have:=hp t zS;simp[this];exact hr 0 zS zS;rw[Zy _ _ e];have:(tmps.setIfInBounds p c).getD t undef=tmps.getD t undef:=by simp[bU (FS e)]
  rw[this];exact ht t
def QU(P:Program)(G:Nat->V)(lo:Nat)(f:FuncId)(A:V->List V)(H:A'){κ}(enc:κ->List V)(xs:List κ)(res:Bool->V)(Pp:A'->Prop:=λ_=>True):Prop:=
 ∀ X t cl σ R dom nx (s0:σ),Yd P G X lo t cl enc R dom nx->Oo dom nx s0 xs->R s0 (Yi lo H)->(∀ s H,R s (Yi lo H)->Pp (Yi lo H))->BZ X H->(∀ g,FI X g (G g))->∀ cargs,FA X cargs (A (.func t [] cl)) ->
  Calls P f cargs X.w (λe w'=>∃ c Y H',e=.returned c/\AI Y c (res (Y4 nx s0 xs).1)/\Y.w=w'/\BH X H Y H'/\R (Y4 nx s0 xs).2 (Yi lo H'))
def MM(P:Program)(G:Nat->V)(lo:Nat)(f:FuncId)(caps:List V)(H:A'){κ}(enc:κ->List V)(xs:List κ)(Pp:A'->Prop:=λ_=>True):Prop:=QU P G lo f (λy=>y::caps) H enc xs (λ_=>.top) Pp
def Uh(k){G lo f A H κ enc xs res Pp fn c}(q n m:Nat)(rs)(p:P.funcs[f]?=ae fn)(h:∀ X t cl σ R dom (nx:σ->κ->Bool × σ) s0,Yd P G X lo t cl enc R dom nx->Oo dom nx s0 xs->R s0 (Yi lo H)->(∀ s H,R s (Yi lo H)->Pp (Yi lo H)) ->
   AW P ⟨X,H,n,q,G,ah,[],k⟩ c (Rf P rs (λv H'=>(v=res (Y4 nx s0 xs).1\/res (Y4 nx s0 xs).1=.top)/\R (Y4 nx s0 xs).2 (Yi lo H'))) ⟨Tq 0 (A (.func t [] cl)),H⟩)(u:fn.body=ae c:=by rfl)(o:fn.ntmps=n:=by rfl)(j:fn.results.toList=rs:=by rfl)(D:∀ v,(A v).length=m:=by exact λ_=>rfl)(l:Nat.ble m n=ad:=by rfl)(g:k=.plain\/k=.HF:=by first|exact .inl rfl|exact .inr rfl):QU P G lo f A H enc xs res Pp:=by
 subst o j;intro X t cl σ R dom nx s0 i r w x y z d b;refine(Kx g BE q p u zG y z b (h X t cl σ R dom nx s0 i r w x)).mono ?_;rintro e w' ⟨c,v,H',Y,⟨rfl,a,h2⟩|⟨k,g,_⟩,C,B,E⟩;refine⟨c,Y,H',rfl,?_,C,B,h2⟩;rcases a with a|a;grind;rw[a];exact .top _;grind
def Po{ops R0 st K}{dst:Option Nat}{f args ats ty pos af gd t cl lo σ κ enc R dom nx}(h:Yd P E.G E.X0 lo t cl enc R dom nx)(s:σ)(k:κ)(p:st.ev E f=.func t [] cl)(ha:args.toList.map (st.ev E)=enc k)(c:dom s k)(r:R s (Yi lo st.H))(u:∀ H2,R (nx s k).2 (Yi lo H2)->(∀ o,o<lo->H2 o=st.H o)->K (AS.put ⟨st.τ,H2⟩ dst (.bool (nx s k).1)))(q:(ops.all (W4 E.n))=ad){n:Nat}(i:ops[n]?=ae ⟨dst,.call ⟨.value f,args,ats⟩,ty,pos,af,gd⟩)(l:Yc ops st.τ ⟨dst,.call ⟨.value f,args,ats⟩,ty,pos,af,gd⟩=ae ad):HandX P E ops R0 ⟨dst,.call ⟨.value f,args,ats⟩,ty,pos,af,gd⟩ st K:=by refine .inl ⟨l,λX a b=>j0 b q i p h.cap λg j=>?_⟩;rw[ha]at j;refine(h.sp s k X _ _ c b.go.le (ZN b.go.BJ _).BJ r b.gl j).mono ?_;rintro e w' ⟨Z,v,rfl,rfl,m,d⟩;exact⟨_,_,Z,_,rfl,rfl,Mc b.go.BJ m,.bool _,u _ (by rw[od];exact d) λo i=>AA zo⟩
def E0{ops R0 st K}{dst:Option Nat}{f args ats ty pos af gd fid cc t cl A res lo σ κ enc xs R dom}{b:σ->κ->Bool × σ}{Pp}(lo1)(g:lo1<=lo)(i:QU P E.G lo fid A (Yi lo1 st.H) enc xs res Pp)(j:Yf P fid=ad)(u:∀ X,E.X0.le X->Yd P E.G X lo t cl enc R dom b)(s0)(y:st.ev E f=.func (.func fid) [] cc)(ha:args.toList.map (st.ev E)++cc=A (.func t [] cl))(k:Oo dom b s0 xs)(I:R s0 (Yi lo st.H))(D:∀ H2,R (Y4 b s0 xs).2 (Yi lo H2)->(∀ o,o<lo1->H2 o=st.H o)->K (AS.put ⟨st.τ,H2⟩ dst (res (Y4 b s0 xs).1)))(z:(ops.all (W4 E.n))=ad){n:Nat}(m:ops[n]?=ae ⟨dst,.call ⟨.value f,args,ats⟩,ty,pos,af,gd⟩)(v:Yc ops st.τ ⟨dst,.call ⟨.value f,args,ats⟩,ty,pos,af,gd⟩=ae ad)(C:∀ s H,R s (Yi lo H)->Pp (Yi lo H)):HandX P E ops R0 ⟨dst,.call ⟨.value f,args,ats⟩,ty,pos,af,gd⟩ st K:=by
 refine .inl ⟨v,λX a d=>j0 d z m y (λ_ h=>by cases h) λl p=>⟨j,?_⟩⟩;rw[ha]at p;have F:Yi lo _=Yi lo st.H:=Mb _ g;refine(i X t cl σ R _ b s0 (u X d.go.le) k zG C (ZN d.go.BJ _).BJ d.gl _ p).mono ?_;rintro e w' ⟨c,Z,r,rfl,w,rfl,x,B⟩;refine⟨_,_,Z,_,rfl,rfl,Mc d.go.BJ x,w,D _ ?_ λo m=>AA zo⟩;have:Yi lo (low lo1 st.H r)=Yi lo r:=Lm λo q=>by rw[low,AF (CT g q),N9]
 grind
def KT(X:Cx)(H:A')(l:Nat):Prop:=(∃ r,X.w.heap[l]?=ae (.loop r))/\¬Wk X H l
def RN{σ κ:Type}(I:σ->A'->Prop)(nx:σ->κ->σ)(jm:σ->Option Code)(lo ol:Nat)(s:σ)(k:κ):Exit->AS->Prop
 |.normal,s'=>jm (nx s k)=ah/\I (nx s k) (Ye (Yi lo s'.H) ol .AR)|.ret,s'=>jm (nx s k)=ae .ret/\I (nx s k) (Ye (Yi lo s'.H) ol .AR)|.exit id,s'=>jm (nx s k)=ae (.exit id)/\I (nx s k) (Ye (Yi lo s'.H) ol .AR)|_,_=>False
def yX{st a X X1}{ps:Array Tmp}{assign body σ κ enc}(lo ol q' l dn fn I nx jm)(D:σ->κ->Prop)(hlo:lo<=ol)(hX:EF E X st a X.w)(hle:X.le X1)(hps:∀ p∈ps.toList,p<E.n)(hpl:∀ k,(enc k).length=ps.size)(A:∀ Y s k H,E.X0.le Y->KT Y (Ye (Yi lo H) ol .AR) l->D s k->jm s=ah->I s (Ye (Yi lo H) ol .AR) ->
   AW P ⟨Y,Ye (Yi lo H) ol .AR,E.n,q',E.G,ah,[],.round l⟩ assign (λe s1=>e=.normal/\∀ Z,E.X0.le Z->KT Z (Ye (Yi lo H) ol .AR) l->AW P ⟨Z,Ye (Yi lo H) ol .AR,E.n,q',E.G,ah,[],.round l⟩ body (RN I nx jm lo ol s k) s1) ⟨MT ps.toList (enc k) st.τ,Ye (Yi lo H) ol .AR⟩):Yd P E.G X1 lo (.yield l) [] enc (λs H=>H ol=.lp l {state:=if(jm s).isNone then .ready else .done,pending:=jm s,fn,tmps:=a.tmps,params:=ps,assign,body,defers:=dn}/\I s (Ye H ol .AR)) (λs k=>D s k/\jm s=ah) (λs k=>((jm (nx s k)).isNone,nx s k)):=by
 refine⟨λ_ _=>rfl,?_⟩;rintro s k Y H f ⟨hD,hj⟩ hXY hI ⟨N,hIs⟩ hG hA;rw[hj]at N;rw[DW]at hA;have⟨C,M⟩:=hI.IA _ _ _ N;have O:=(DB.1 C).1;have U:f.size=ps.size:=by rw[hA.len];exact hpl k
 have j:BH Y _ Y (Ye (Yi lo H) ol .AR):=TB hI λo=>by by_cases e:o=ol;simp_all;exact .inr (Zy _ _ e)
 have y:¬Wk Y (Ye (Yi lo H) ol .AR) l:=by rintro(⟨o,c,g,fz,cs,bs,T,hβ⟩|⟨o,r,T⟩);have⟨b,bs',J,_,c',t,h2,_⟩:=j.BJ.DQ _ _ _ _ _ T;rw[hβ]at J;cases J;rw[C]at h2;cases h2;by_cases e:o=ol;subst e;rw[Ys]at T;cases T;rw[Zy _ _ e]at T;exact e (M _ _ T)
 let h:Loop:={state:=.ready,pending:=ah,fn,tmps:=a.tmps,params:=ps,assign,body,defers:=dn};have hy:=run_yield (P:=P) C U;refine⟨_,_,_,_,hy,roundIn_of_wpIn trivial ?_⟩;have hf:((ps.zip f).foldl (λtmps  x=>tmps.setIfInBounds x.1 x.2) a.tmps)=((ps.toList.zip f.toList).foldl (fun  tmps p=>tmps.setIfInBounds p.1 p.2) a.tmps):=by rw[<- Array.foldl_toList,Array.toList_zip]
 have⟨J,h2⟩:=jK ps.toList f.toList (enc k) a.tmps st.τ (by simp[U]) (by simp[hpl]) (λp hp=>by rw[hX.sz];exact hps p hp) (λi q1 q2=>by simpa using hA.CV i (zu q1) q2) (λt=>((hX.tm t).mono hle).mono hXY);have hrd:KT Y (Ye (Yi lo H) ol .AR) l:=⟨⟨_,C⟩,y⟩;have hEY:=(hX.go.le.trans hle).trans hXY;have haw:=A Y s k H hEY hrd hD hj hIs {tmps:=(ps.zip f).foldl (λtmps  x=>tmps.setIfInBounds x.1 x.2) a.tmps,defers:=[]} Y.w
  ⟨Y,rfl,(GF j.BJ).gn (TA _),⟨rfl,λi J h2=>by simp at J⟩,by show Array.size _=_;rw[hf,J];exact hX.sz,λt=>by show AI Y (Array.getD _ t undef) _;rw[hf];exact h2 t,hG⟩
 refine wpIn_mono haw ?_;rintro e a1 w1 (⟨s1,⟨X3,m⟩,rfl,S⟩|⟨ch,rfl,hp⟩);rotate_left;exact(hp.no rfl).elim;have hw1:=m.hw;subst hw1;have Q:=(m.gz.kp.block l O y).trans C;refine⟨X3.w.putObj l (.loop {h with state:=.busy}),run_beginRound Q rfl,?_⟩;have hgo:=Cs j.BJ m.gz C rfl (o':=.loop {h with state:=.busy}) rfl y;have R:({Y with w:=Y.w.putObj l (.loop {h with state:=.busy})}:Cx).w.heap[l]?=ae (.loop {h with state:=.busy}):=aY O;have u:=y;have hb:=S {Y with w:=Y.w.putObj l (.loop {h with state:=.busy})} (hEY.trans (S4 _ C rfl)) ⟨⟨_,R⟩,u⟩ a1 _ ⟨{X3 with w:=X3.w.putObj l (.loop {h with state:=.busy})},rfl,hgo.gn (TA _),⟨m.df.1,λi J h2=>by have:=MD m.df;rw[this]at J;simp at J⟩,m.sz,λt=>(m.tm t).mono (S4 _ Q rfl),λg=>(m.gl g).turn _ Q rfl⟩
 refine wpIn_mono hb ?_;rintro e a4 w4 (⟨L,⟨z,F⟩,B⟩|⟨ch,rfl,hp⟩);rotate_left;exact(hp.no rfl).elim;have hw4:=F.hw;subst hw4;have hl4:=(F.gz.kp.block l (by rw[an];exact O) u).trans R;have hend:∀ d,BH Y (Yi lo H) {z with w:=z.w.putObj l (.loop {h with state:=if d.isNone then .ready else .done,pending:=d})} (Ye L.H ol (.lp l {h with state:=if d.isNone then .ready else .done,pending:=d})):=λd=>by
  have g1:=Cs (by have:=Cs j.BJ (GF j.BJ) C rfl (o':=.loop {h with state:=.busy}) rfl y;exact this.BJ) F.gz R rfl (o':=.loop h) rfl u
  have e:({Y with w:=Y.w.putObj l (.loop {h with state:=.busy})}:Cx).w.putObj l (.loop h)=Y.w:=by
   show aX (aX Y.w l _) l _=_;unfold aX;simp only[lS];have:Y.w.heap.setIfInBounds l (.loop h)=Y.w.heap:=by apply Array.ext_getElem?;intro i;rw[SW];split;rename_i q;subst q;exact C.symm;rfl
   rw[this]
  rw[e]at g1;have g2:BH Y (Yi lo H) {z with w:=z.w.putObj l (.loop h)} L.H:=j.trans g1;have hlv:Wk Y (Yi lo H) l:=.inr ⟨ol,_,N⟩;have hno:∀ n r,L.H n=.lp l r->False:=λn r W=>by rcases F.gz.on l (.inr ⟨n,r,W⟩)with q|q;rw[an]at q;omega;exact u q
  have K:=(DB.1 hl4).1;have g3:=BH.turn g2 (o':=.loop {h with state:=if d.isNone then .ready else .done,pending:=d}) (aY K) rfl rfl (.inr hlv) (H':=L.H) (λ_=>.inl rfl) (λn r W=>(hno n r W).elim);have e2:({z with w:=z.w.putObj l (.loop h)}:Cx).w.putObj l (.loop {h with state:=if d.isNone then .ready else .done,pending:=d})=z.w.putObj l (.loop {h with state:=if d.isNone then .ready else .done,pending:=d}):=by show aX (aX z.w l _) l _=_;unfold aX;simp only[lS]
  rw[e2]at g3;exact g3.newLp (aY K) (.inr hlv) (λn r _ W=>hno n r W)
 have V:∀ d,(Instr.endRound l d).run P z.w=.ok (.bool d.isNone) (z.w.putObj l (.loop {h with state:=if d.isNone then .ready else .done,pending:=d})):=λd=>run_endRound (r:={h with state:=.busy}) d hl4;have CK:∀ d,jm (nx s k)=d->I (nx s k) (Ye (Yi lo L.H) ol .AR)->∃ v w',(Instr.endRound l d).run P z.w=.ok v w' /\
   ∃ Z H',Ending.returned v=.returned (.bool (jm (nx s k)).isNone)/\Z.w=w'/\BH Y (Yi lo H) Z H'/\(Yi lo H' ol=.lp l {state:=if(jm (nx s k)).isNone then .ready else .done,pending:=jm (nx s k),fn,tmps:=a.tmps,params:=ps,assign,body,defers:=dn}/\I (nx s k) (Ye (Yi lo H') ol .AR)):=by
  rintro d rfl hI4;refine⟨_,_,V _,_,_,rfl,rfl,hend _,?_,?_⟩;rw[Jj,AF hlo,Ys];rfl;rw[Jj,AF hlo];simp only[BL.noMp];have:Ye (Ye (Yi lo L.H) ol (.lp l {h with state:=if(jm (nx s k)).isNone then .ready else .done,pending:=jm (nx s k)})) ol .AR=Ye (Yi lo L.H) ol .AR:=by funext o;simp only[Ye];split<;>rfl
  rw[this];exact hI4
 cases e with|normal=>exact CK ah B.1 B.2|ret=>exact CK (ae .ret) B.1 B.2|exit id=>exact CK (ae (.exit id)) B.1 B.2|goto t=>exact B.elim|panic ch=>exact B.elim|outgrown=>exact B.elim
def AAB{st a X}(i:EF E X st a X.w)(v:E.rk ≠ .plain)(n:∀ l0,E.rk=.round l0->KT E.X0 E.H0 l0)(fn ps assign body)(c:E.rk.isInl=ab):∃ l mark w1 dn,(Instr.enterLoop fn a.tmps ps assign body E.rk.F.round).run P X.w=.ok (l,mark) w1/\X.w.heap.size<=l/\w1.heap[l]?=ae (.loop {state:=.ready,pending:=ah,fn,tmps:=a.tmps,params:=ps,assign,body,defers:=dn}) /\
   BH X st.H {X with w:=w1} st.H/\DefR E.rk E.X0.w.heap.size {X with w:=w1} (mark++a.defers) E.df:=by
 have j:=i.go.BJ;have b:=i.df;have s:E.rk.F.round=E.rk.ro:=rfl;cases h:E.rk with
 |plain=>grind|inl N=>rw[h]at c;cases c|HF=>
  rw[h]at b;have u:=YJ j (.deferred (ae []));have A:=YJ u.BJ (.loop {state:=.ready,pending:=ah,fn,tmps:=a.tmps,params:=ps,assign,body,defers:=X.w.heap.size});have g:=u.trans A;have y:((X.w.alloc _).alloc (.loop {state:=.ready,pending:=ah,fn,tmps:=a.tmps,params:=ps,assign,body,defers:=X.w.heap.size})).heap[X.w.heap.size]?=ae (.deferred (ae [])):=
   (aV _ _ _ zS).trans (aW X.w _)
  refine⟨_,_,_,X.w.heap.size,run_enterLoop_outer fn _ ps _ _,zo,?_,g,b.1,⟨X.w.heap.size,rfl,i.go.kp.size,y,λe t q=>?_⟩,(DefR.go b j g).2⟩;have:=aW (X.w.alloc (.deferred (ae []))) (.loop {state:=.ready,pending:=ah,fn,tmps:=a.tmps,params:=ps,assign,body,defers:=X.w.heap.size});simp_all;have m:∀ {k},Marks E.X0.w.heap.size X.w k->∀ e∈k,∀ D,e.target=.collected D->D<X.w.heap.size:=by
   intro k
   induction k with|nil=>grind|cons d r ih=>rintro⟨⟨D,G,_,C,_⟩,B⟩ e t I x;grind
  have:=m b.2 e t _ q;omega
 |round l0=>have⟨⟨p,f⟩,o⟩:=n l0 h;have z:=((i.gz c).kp.block l0 (DB.1 f).1 o).trans f;have g:=YJ j (.loop {state:=.ready,pending:=ah,fn,tmps:=a.tmps,params:=ps,assign,body,defers:=p.defers});rw[h]at b;exact⟨_,_,_,p.defers,run_enterLoop_inner z fn _ ps _ _,BO _,aW _ _,g,DefR.go b j g⟩
def AW.range{g}{ps:Array Tmp}{assign body Q st gf caps σ κ enc xs}(lo1 lo ol q')(I:σ->A'->Prop)(nx jm)(D:σ->κ->Prop)(s0)(hg:st.ev E g=.func (.func gf) [] caps)(hen:Yf P gf=ad)(hro:∀ l0,E.rk=.round l0->KT E.X0 E.H0 l0)(hps:∀ p∈ps.toList,p<E.n)(hpl:∀ k,(enc k).length=ps.size)(h01:lo1<=lo)(hlo:lo<=ol){Pp}(hit:∀ l r,MM P E.G lo gf caps (Ye (Yi lo1 st.H) ol (.lp l r)) enc xs Pp)(hPp:∀ s H,I s (Ye H ol .AR)->Pp H)(hj:jm s0=ah)(hI0:I s0 (Ye (Yi lo st.H) ol .AR))(hD:Oo (λs k=>D s k/\jm s=ah) (λs k=>((jm (nx s k)).isNone,nx s k)) s0 xs)(hround:∀ l Y s k H,E.X0.le Y->KT Y (Ye (Yi lo H) ol .AR) l->D s k->jm s=ah->I s (Ye (Yi lo H) ol .AR) ->
   AW P ⟨Y,Ye (Yi lo H) ol .AR,E.n,q',E.G,ah,[],.round l⟩ assign (λe s1=>e=.normal/\∀ Z,E.X0.le Z->KT Z (Ye (Yi lo H) ol .AR) l->AW P ⟨Z,Ye (Yi lo H) ol .AR,E.n,q',E.G,ah,[],.round l⟩ body (RN I nx jm lo ol s k) s1) ⟨MT ps.toList (enc k) st.τ,Ye (Yi lo H) ol .AR⟩)(hafter:∀ H2,I (Y4 (λs k=>((jm (nx s k)).isNone,nx s k)) s0 xs).2 (Ye (Yi lo H2) ol .AR)->(∀ o,o<lo1->H2 o=st.H o)->H2 ol=.AR ->
   match jm (Y4 (λs k=>((jm (nx s k)).isNone,nx s k)) s0 xs).2 with|none=>Q .normal ⟨st.τ,H2⟩|some c=>AW P E c Q ⟨st.τ,H2⟩)(hrk:E.rk ≠ .plain:=by exact RK.noConfusion)(hkp:E.kp=ah:=by rfl)(hri:E.rk.isInl=ab:=by rfl):AW P E (.rangeFunc g ps assign body) Q st:=by
 rintro a w ⟨X,hX⟩;have hw:=hX.hw;subst hw;refine wpIn_rangeFunc λfn _=>?_;obtain⟨l,mark,w1,dn,hent,hls,hl1,hgo1,hdf1⟩:=AAB hX hrk hro fn ps _ body hri;have hfv:=hX.ev g;rw[hg]at hfv;generalize hq:a.eval g=q at hfv;cases hfv with|func _ xs0 ys _ _ hx hy hxr hyr=>
 have hx0:=VV hx;subst hx0;have hrun:(callFunc gf (#[.func (.yield l) #[] #[]]++ys)).run P w1=.ok (.enter gf (#[.func (.yield l) #[] #[]]++ys)) w1:=by
  unfold Yf at hen;split at hen;rename_i fn hfn;simp only[BP]at hen;obtain⟨hn1,hn2⟩:=hen;have hn1':(fn.name == "runtime.NumGoroutine")=ab:=zu hn1;have hn2':fn.body.isNone=ab:=by cases hb:fn.body<;>simp_all
  simp only[callFunc,Sem.run_bind,run_program,aB,hfn,hn1',hn2'];simp;simp at hen
 refine⟨l,mark,w1,{target:=.fn (.func gf) ys,args:=#[.func (.yield l) #[] #[]]},w1,gf,#[.func (.yield l) #[] #[]]++ys,w1,hent,?_,λ_ _=>trivial,?_,λh=>(by cases h),?_⟩;simp only[resolve,hq,aU,Sem.run_pure];simp[go_sem];simp only[invoke,hrun];refine(E.rk.calls).2 ?_;have hI1:=hgo1.BJ;have hno:∀ o r,o≠ol->st.H o=.lp l r->False:=λo r _ ho=>by have:=(hX.go.BJ.IA _ _ _ ho).1;have:=(DB.1 this).1;omega
 have hgo2:=hgo1.newLp hl1 (.inl hls) hno;have hmask:∀ r,Ye (Yi lo1 st.H) ol (.lp l r)=Yi lo1 (Ye st.H ol (.lp l r)):=λr=>by rw[Jj,AF (CT h01 hlo)];rfl
 have hmask2:∀ r,Yi lo (Ye (Yi lo1 st.H) ol (.lp l r))=Ye (Yi lo st.H) ol (.lp l r):=λr=>by rw[Jj,AF hlo,Mb _ h01];rfl
 have hyd:=yX lo ol q' l dn fn I nx jm D hlo hX hgo1.le hps hpl (hround l);have hI2:=hmask _ ▸ (ZN hgo2.BJ lo1).BJ;have hcall:=hit l _ {X with w:=w1} _ _ σ _ _ _ s0 hyd hD (by
  rw[hmask2,hj,Ys];refine⟨rfl,?_⟩;have:Ye (Ye (Yi lo st.H) ol (.lp l {state:=.ready,pending:=ah,fn,tmps:=a.tmps,params:=ps,assign,body,defers:=dn})) ol .AR=Ye (Yi lo st.H) ol .AR:=by funext o;simp only[Ye];split<;>rfl
  rw[this];exact hI0) (λs H h=>hPp s _ h.2) hI2 (λg=>(hX.gl g).go hX.go.BJ hgo1) (#[.func (.yield l) #[] #[]]++ys) ⟨by simp[hy];omega,λi h1 h2=>by rcases i with _|i;rw[PV zS];exact .func _ #[] #[] [] [] rfl rfl (λi h1 h2=>by simp at h2) (λi h1 h2=>by simp at h2);have:=hyr i (by simp at h1;omega) (zu h2);rw[SX zS];simpa using this.mono hgo1.le⟩
 refine hcall.mono ?_;rintro e w3 ⟨c,Y,H',rfl,_,rfl,hg3,hol3,hI3⟩;generalize hs:(Y4 (λs k=>((jm (nx s k)).isNone,nx s k)) s0 xs).2=sf at *;have hol3':H' ol=.lp l {state:=if(jm sf).isNone then .ready else .done,pending:=jm sf,fn,tmps:=a.tmps,params:=ps,assign,body,defers:=dn}:=by rw[V8 hlo]at hol3;exact iZ hol3
 have hl3:=(hg3.BJ.IA _ _ _ hol3').1;have hend:=run_endLoop (P:=P) hl3 (by simp only;split<;>simp);refine⟨jm sf,_,hend,?_⟩;rw[hmask]at hg3;have hg4:=((hX.gz hri).trans hgo2).trans (Mc hgo2.BJ hg3);have hlow:low lo1 (Ye st.H ol (.lp l {state:=.ready,pending:=ah,fn,tmps:=a.tmps,params:=ps,assign,body,defers:=dn})) H' ol=.lp l {state:=if(jm sf).isNone then .ready else .done,pending:=jm sf,fn,tmps:=a.tmps,params:=ps,assign,body,defers:=dn}:=by unfold low;rw[AF (CT h01 hlo),hol3'];rfl
 have hg5:=hg4.turn hl3 rfl rfl (.inl (CT hX.go.kp.size hls))
  (H':=Ye (low lo1 (Ye st.H ol (.lp l {state:=.ready,pending:=ah,fn,tmps:=a.tmps,params:=ps,assign,body,defers:=dn})) H') ol (.lp l {state:=.exhausted,pending:=jm sf,fn,tmps:=a.tmps,params:=ps,assign,body,defers:=dn}))
  (λn=>by
   by_cases e:n=ol;subst e;exact .inr ⟨_,_,hlow,Ys ..,rfl⟩;exact .inl (Zy _ _ e)) (λn r hn=>by
   by_cases e:n=ol;subst e;left;rw[Ys,hlow];intro h;simp only[BL.lp.injEq,KE,Loop.mk.injEq,CE]at h;split at h<;>cases h;exact absurd ((hg4.BJ.IA _ _ _ hlow).2 _ _ hn) e)
 have hg6:=hg5.trans (TB hg5.BJ (H':=Ye (low lo1 st.H H') ol .AR) λo=>by by_cases e:o=ol;subst e;exact .inl (Ys ..);right;rw[Zy _ _ e,Zy _ _ e];simp only[low];split;rfl;rw[Zy _ _ e])
 have hle:X.le {Y with w:=Y.w.putObj l (.loop {state:=.exhausted,pending:=jm sf,fn,tmps:=a.tmps,params:=ps,assign,body,defers:=dn})}:=(hgo2.le.trans hg3.le).trans (S4 _ hl3 rfl);have hsat:Ng E ⟨st.τ,Ye (low lo1 st.H H') ol .AR⟩ {a with defers:=mark++a.defers} (Y.w.putObj l (.loop {state:=.exhausted,pending:=jm sf,fn,tmps:=a.tmps,params:=ps,assign,body,defers:=dn})):=by refine⟨_,rfl,hg6.gn E.N_le,?_,hX.sz,λt=>(hX.tm t).mono hle,λg=>?_⟩;have hz:=(hdf1.go hgo2.BJ (Mc hgo2.BJ hg3));refine hz.mono (S4 _ hl3 rfl) λD hD=>al λe=>?_;subst e;rw[hl3]at hD;cases hD;have:=((hX.gl g).go hX.go.BJ hgo2).go hgo2.BJ (Mc hgo2.BJ hg3);exact this.turn _ hl3 rfl
 have ha:=hafter (Ye (low lo1 st.H H') ol .AR) (by
  have:Ye (Yi lo (Ye (low lo1 st.H H') ol .AR)) ol .AR=Ye (Yi lo H') ol .AR:=by
   have e:Yi lo (low lo1 st.H H')=Yi lo H':=Lm λo q=>by rw[low,AF (CT h01 q),N9]
   rw[Jj,AF hlo,e];funext o;simp only[Ye];split<;>rfl
  rw[this];exact hI3) (λo ho=>by rw[Zy _ _ zo,low,AA zo]) (Ys ..)
 rcases hjm:jm sf with _|c;rw[hjm]at ha hsat;exact .inl ⟨_,hsat,ha⟩;rw[hjm]at ha hsat;exact ha _ _ hsat
def AA7{σ κ}(I nx jm lo ol)(s:σ)(k:κ)(s'):RN I nx jm lo ol s k .normal s'=(jm (nx s k)=ah/\I (nx s k) (Ye (Yi lo s'.H) ol .AR)):=rfl
def vb{σ κ}(I nx jm lo ol)(s:σ)(k:κ)(s'):RN I nx jm lo ol s k .ret s'=(jm (nx s k)=ae .ret/\I (nx s k) (Ye (Yi lo s'.H) ol .AR)):=rfl
def tY(p ps v vs τ):MT (p::ps) (v::vs) τ = MT ps vs (Ye τ p v):=rfl
def xi(τ):MT [] [] τ = τ:=rfl
attribute[go_sem]AA7 vb tY xi
def Ms{g ps assign body Q st gf caps σ κ enc xs}(lo1 lo ol q')(S:σ->A')(nx jm)(D:σ->κ->Prop)(s0)(C:st.ev E g=.func (.func gf) [] caps){Pp}(v:∀ l r,MM P E.G lo gf caps (Ye (Yi lo1 st.H) ol (.lp l r)) enc xs Pp)(x:Ye (Yi lo st.H) ol .AR=S s0)(I:Oo (λs k=>D s k/\jm s=ah) (λs k=>((jm (nx s k)).isNone,nx s k)) s0 xs)(a:∀ l Y s k,KT Y (S s) l->D s k->jm s=ah ->
   AW P ⟨Y,S s,E.n,q',E.G,ah,[],.round l⟩ assign (λe s1=>e=.normal/\∀ Z,KT Z (S s) l->AW P ⟨Z,S s,E.n,q',E.G,ah,[],.round l⟩ body (RN (λs H=>H=S s) nx jm lo ol s k) s1) ⟨MT ps.toList (enc k) st.τ,S s⟩)(b:∀ H2 sf,sf=(Y4 (λs k=>((jm (nx s k)).isNone,nx s k)) s0 xs).2->Ye (Yi lo H2) ol .AR=S sf->(∀ o,o<lo1->H2 o=st.H o) ->
   match jm sf with|none=>Q .normal ⟨st.τ,H2⟩|some c=>AW P E c Q ⟨st.τ,H2⟩)(d:∀ l0,E.rk=.round l0->KT E.X0 E.H0 l0:=by exact λ_ h=>nomatch h)(w:Yf P gf=ad:=by kernel_rfl)(j:(ps.toList.all λp=>Nat.blt p E.n)=ad:=by rfl)(m:∀ k,(enc k).length=ps.size:=by exact λ_=>rfl)(z:lo1<=lo:=by decide)(q:lo<=ol:=by decide)(u:jm s0=ah:=by rfl)(f:E.rk ≠ .plain:=by exact RK.noConfusion)(t:E.kp=ah:=by rfl)(i:E.rk.isInl=ab:=by rfl)(hPp:∀ s H,Ye H ol .AR=S s->Pp H:=by exact λ_ _ _=>trivial):AW P E (.rangeFunc g ps assign body) Q st:=by
 refine AW.range _ lo ol q' (λs H=>H=S s) nx jm D s0 C w d (λp B=>by have:=ER.1 j p B;simp_all) m z q v hPp u x I (λl Y s k H _ A F u y=>?_) (λH2 y J _=>b H2 _ rfl y J) f t i;rw[y]at A⊢;refine(a l Y s k A F u).mono ?_;grind
def Weak.DA{lo ol τ}{a c:A'}{l}(h:Ye (Yi lo a) ol .AR=c)(d:Vy τ l):Weak E ⟨τ,a⟩ ⟨Yb Mv l,c⟩:=by
 refine T4 (λ_=>ab) (λt=>?_) (λo=>?_);rcases Vl t l (X5 d)with b|b;exact .inl b;refine .inr ?_;show Fz _ a _ (Yb Mv l t);rw[b];exact Zd;show FzO _ a o (c o);rw[<- h];by_cases e:o=ol;subst e;rw[Ys];trivial;rw[Zy _ _ e];rcases GG o lo with q|q;rw[W6 q];trivial
 .rw[V8 q];have:=DR (F:=λ_=>ab) (H:=a) (o:=o) rfl;cases f:a o with|mp=>trivial|_=>rw[f]at this;exact this
abbrev JA:=@Weak.DA
def PG{G f fn c args H K}(q n rs)(i:P.funcs[f]?=ae fn)(h:∀ X,AW P ⟨X,H,n,q,G,ah,[],.HF⟩ c (Rf P rs K) ⟨Tq 0 args,H⟩)(j:fn.body=ae c:=by rfl)(g:fn.ntmps=n:=by rfl)(d:fn.results.toList=rs:=by rfl)(a:Nat.ble args.length n=ad:=by rfl):Spec P G f args H K:=by
 subst g d;exact λX _ _ l m o=>(Kx (.inr rfl) BE q i j a l m o (h X)).mono λe w' ⟨c,v,w,Y,b,u,t,s⟩=>by rcases b with ⟨b,r⟩|⟨k,p,_⟩;grind;grind
def dQ{κ}(p):∀ xs:List κ,(Y4 (fun(_:Bool) k=>((if p k=ad then ae Code.ret else ah:Option Code).isNone,p k)) ab xs).2=xs.any p
 |[]=>rfl|k::r=>by rw[HR,Y4];cases h:p k;exact dQ p r;rfl
def Mk{σ κ}{D:σ->κ->Prop}{a:σ->Option Code}{b:σ->κ->σ}:∀ {xs} {s},a s=ah->(∀ k∈xs,∀ s,D s k)->Oo (λs k=>D s k/\a s=ah) (λs k=>((a (b s k)).isNone,b s k)) s xs
 |[],_,_,_=>trivial|k::r,s,hj,h=>⟨⟨h k zS s,hj⟩,λq=>Mk (by simp_all) λx c=>h x zG⟩
@[go_sem] def stM(lo:Nat)(B:A')(l:List (Nat×V))(m:List (Nat×BL)):AS:=⟨Yb Mv l,Yb (Yi lo B) m⟩
def We{lo τ}{H B:A'}{l m}(h:Vy τ l)(b:Vy H m)(d:Yi lo H=Yi lo B):Weak E ⟨τ,H⟩ (Hs.stM lo B l m):=by
 refine T4 (λ_=>ab) (λt=>?_) (λo=>?_);rcases Vl t l (X5 h)with a|a;exact .inl a;refine .inr ?_;show Fz _ H _ (Yb Mv l t);rw[a];exact Zd;show FzO _ H o (Yb (Yi lo B) m o);rcases Vl o m (X5 b)with a|a;rw[a,<- d];rcases GG o lo with q|q;rw[W6 q];trivial
 .rw[V8 q];have:=DR (F:=λ_=>ab) (H:=H) (o:=o) rfl;cases c:H o with|mp=>trivial|_=>rw[c]at this;exact this
 rw[a];exact DR rfl
