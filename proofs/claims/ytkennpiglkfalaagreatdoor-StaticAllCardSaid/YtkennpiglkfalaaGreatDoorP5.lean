/- A part. No condition. -/
import Derived.Test.YtkennpiglkfalaaGreatDoorP4
import Derived.Orders
set_option linter.all false
open List renaming length->aa
open Option renaming some->ae
namespace Go.Hs
section
inductive BL where
 |AR
 |cells (c:AH) (g fz:Nat) (cs:List V)
 |mp (lo b:Nat) (ks vs:List V)
 |lp (b:Nat) (r:Loop)
abbrev A':=Nat->BL
def Ye{α:Type}(f:Nat->α)(k:Nat)(x:α):Nat->α:=λn=>if n=k then x else f n
@[simp] def Ys{α}(f k)(x:α):Ye f k x k=x:=by simp[Ye]
def Zy{α}(f){k n}(x:α)(h:n≠k):Ye f k x n=f n:=by simp[Ye,h]
def Wk(X:Cx)(H:A')(b:Nat):Prop:=(∃ o c g fz cs bs,H o=.cells c g fz cs/\X.β o g=ae (b,bs))\/∃ o r,H o=.lp b r
structure li(X:Cx)(H:A')(o lo b:Nat)(ks vs:List V):Prop where
 lo:lo<=b
 HK:¬X.S b 0
 one:∀ o' lo' ks' vs',H o'=.mp lo' b ks' vs'->o'=o
 is:∃ es n,X.w.heap[b]?=ae (Obj.map es n)/\es.size=aa ks/\es.size=aa vs/\(∀ i (h1:i<es.size) (h2:i<aa ks),AI X es[i].key ks[i])/\(∀ i (h1:i<es.size) (h2:i<aa vs),AI X es[i].val vs[i])
def MpOk(X:Cx)(H:A'):Prop:=∀ o lo b ks vs,H o=.mp lo b ks vs->li X H o lo b ks vs
def MpOk.no{X H}(h:∀ o lo b ks vs,H o=.mp lo b ks vs->False):MpOk X H:=λo lo b ks vs a=>(h o lo b ks vs a).elim
def LpOk(X:Cx)(H:A'):Prop:=∀ o b r,H o=.lp b r->X.w.heap[b]?=ae (.loop r)/\∀ o' r',H o'=.lp b r'->o'=o
def LpOk.no{X H}(h:∀ o b r,H o=.lp b r->False):LpOk X H:=λo b r a=>(h o b r a).elim
structure BZ(X:Cx)(H:A'):Prop where
 DQ:∀ o c g fz cs,H o=.cells c g fz cs->∃ b bs,X.β o g=ae (b,bs)/\c.ok X.base b /\
  ∃ (c':Array Value) (t:TypeId),X.w.heap[b]?=ae (Obj.cells c' t (0,0))/\bs+aa cs<=c'.size/\CI X ((c'.toList.drop bs).take (aa cs)) cs
 inj:∀ o1 c1 g1 f1 l1 o2 c2 g2 f2 l2 b s1 s2,H o1=.cells c1 g1 f1 l1->H o2=.cells c2 g2 f2 l2->X.β o1 g1=ae (b,s1)->X.β o2 g2=ae (b,s2)->o1=o2
 DD:∀ b i,X.S b i->b<X.w.heap.size/\∀ o c g fz cs bs,H o=.cells c g fz cs->X.β o g=ae (b,bs)->i<bs+fz
 CK:∀ o,∃ n,∀ g,n<=g->X.β o g=none
 bw:X.base<=X.w.heap.size
 IM:∀ b i,X.S b i->X.base<=b->(∃ c t,X.w.heap[b]?=ae (Obj.cells c t (0,0)))\/(i=0/\∃ es n,X.w.heap[b]?=ae (Obj.map es n))
 KB:MpOk X H
 IA:LpOk X H
structure E_(M:Nat->Prop)(w w':World):Prop where
 os:w'.os=w.os
 tape:w'.tape=w.tape
 output:w'.output=w.output
 size:w.heap.size<=w'.heap.size
 block:∀ k,k<w.heap.size->¬M k->w'.heap[k]?=w.heap[k]?
def E_.refl(M w):E_ M w w:=⟨rfl,rfl,rfl,BO _,λ_ _ _=>rfl⟩
abbrev QA:=@E_.refl
def E_.mono{M M' w w'}(h:E_ M w w')(d:∀ b,b<w.heap.size->M b->M' b):E_ M' w w':=
 ⟨h.os,h.tape,h.output,h.size,λk a c=>h.block k a (λe=>c (d k a e))⟩
def E_.trans{M M' w w' w''}(h:E_ M w w')(k:E_ M' w' w'')(d:∀ b,b<w.heap.size->M' b->M b):E_ M w w'':=
 ⟨k.os.trans h.os,k.tape.trans h.tape,k.output.trans h.output,CT h.size k.size,λb a c=>by rw[k.block b (GU a h.size) (λe=>c (d b a e)),h.block b a c]⟩
def E_.below{w w' M}(h:E_ M w w')(a:∀ b,¬M b):RowKit.Below w.heap.size w w':=
 ⟨h.os,h.tape,h.output,h.size,λk c=>h.block k c (a k)⟩
def BZ.not_live{X H}(h:BZ X H){b es n}(d:X.w.heap[b]?=ae (Obj.map es n)):¬Wk X H b:=by rintro(⟨o,c,g,f,i,p,a,k⟩|⟨o,r,a⟩);obtain⟨q,j,e,_,m,t,l,_⟩:=h.DQ o c g f i a;grind;rw[(h.IA o b r a).1]at d;cases d
def BZ.lps_tr{X Y H H'}(h:BZ X H)(a:∀ o b r,H' o=.lp b r->H o=.lp b r)(d:∀ (b:Nat) r,X.w.heap[b]?=ae (Obj.loop r)->Y.w.heap[b]?=X.w.heap[b]?):LpOk Y H':=by intro o b r c;have e:=h.IA o b r (a _ _ _ c);grind
def BZ.mps_tr{X Y H H'}(h:BZ X H)(c:X.le Y)(a:∀ o lo b ks vs,H' o=.mp lo b ks vs->H o=.mp lo b ks vs)(kp:E_ (Wk X H) X.w Y.w)(B:∀ b i,Y.S b i->X.S b i\/X.w.heap.size<=b\/Wk X H b):MpOk Y H':=by
 intro o lo b ks vs p;obtain⟨x,h2,v,y,n,d,u,t,s,r⟩:=h.KB o lo b ks vs (a _ _ _ _ _ p);have q:=h.not_live d;have j:b<X.w.heap.size:=by rw[DB]at d;exact d.1
 refine⟨x,λA=>?_,λz l m k g=>v _ _ _ _ (a _ _ _ _ _ g),y,n,(kp.block b j q).trans d,u,t,λi f e=>(s i f e).mono c,λi f e=>(r i f e).mono c⟩;grind
def BZ.thawC{X H}(h:BZ X H){b i x}(a:X.S b i)(e:X.base<=b)(d:X.cell b i=ae x):∃ c t,X.w.heap[b]?=ae (Obj.cells c t (0,0)):=by rcases h.IM b i a e with q|⟨_,f,n,q⟩;exact q;simp[Cx.cell,World.cell?,q]at d
structure BH(X:Cx)(H:A')(Y:Cx)(H':A'):Prop where
 BJ:BZ Y H'
 le:X.le Y
 kp:E_ (Wk X H) X.w Y.w
 Sn:∀ b i,Y.S b i->X.S b i\/X.w.heap.size<=b\/Wk X H b
 on:∀ b,Wk Y H' b->X.w.heap.size<=b\/Wk X H b
def BH.refl{X H}(h:BZ X H):BH X H X H:=
 ⟨h,Cx.le.refl X,QA _ _,λ_ _ a=>.inl a,λ_ b=>.inr b⟩
abbrev GF:=@BH.refl
def BH.trans{X Y Z H H' H''}(h:BH X H Y H')(k:BH Y H' Z H''):BH X H Z H'' where
 BJ:=k.BJ
 le:=h.le.trans k.le
 kp:=h.kp.trans k.kp (λb c e=>(h.on b e).resolve_left zo)
 Sn:=λb i d=>by rcases k.Sn b i d with a|a|a;exact h.Sn b i a;exact .inr (.inl (CT h.kp.size a));exact .inr (h.on b a)
 on:=λb c=>by rcases k.on b c with a|a;exact .inl (CT h.kp.size a);exact h.on b a
structure AS where
 τ:Nat->V
 H:A'
def AS.put(s:AS)(dst:Option Nat)(v:V):AS:=
 match dst with|some d=>{s with τ:=Ye s.τ d v}|none=>s
def SzK(X:Cx)(g:Nat):V->Prop
 |.view c (.agg cs)=>c.ok X.base g/\∃ (l:Array Value) (t:TypeId) (fr:Nat×Nat),X.w.heap[g]?=ae (Obj.cells l t fr)/\l.size=aa cs|_=>True
structure FI(X:Cx)(g:Nat)(v:V):Prop where
 CV:AI X (.pointer (ae ⟨g,0,none⟩)) v
 sz:SzK X g v
def SzK.go{X Y H H' g v}(h:SzK X g v)(k:BZ X H)(e:BH X H Y H'):SzK Y g v:=by unfold SzK at h⊢;split;obtain⟨n,l,t,s,f,h2⟩:=h;have d:g<X.w.heap.size:=zG;refine⟨by rw[e.le.base];exact n,?_⟩;by_cases i:Wk X H g;rcases i with ⟨o,c,p,q,u,D,b,m⟩|⟨o,r,b⟩;obtain⟨E,x,a,_,C,y,j,_⟩:=k.DQ o c p q _ b;rw[m]at a;cases a;rw[f]at j;cases j;obtain⟨z,B,A⟩:=e.le.blk _ _ _ f;grind;have:=(k.IA o g r b).1;grind;exact⟨l,t,s,by rw[e.kp.block g d i];exact f,h2⟩;trivial
def FI.go{X Y H H' g v}(h:FI X g v)(b:BZ X H)(a:BH X H Y H'):FI Y g v:=⟨h.CV.mono a.le,h.sz.go b a⟩
inductive RK where
 |plain|HF|round (l:Nat)|inl (N:Nat)
structure BX where
 X0:Cx
 H0:A'
 n:Nat
 q:Nat
 G:Nat->V
 kp:Option (V->A'->Prop):=none
 df:List V:=[]
 rk:RK:=.plain
def BX.N(E:BX):Nat:=match E.rk with|.inl N=>min N E.X0.w.heap.size|_=>E.X0.w.heap.size
def RK.isInl:RK->Bool
 |.inl _=>true|_=>false
def BX.N_le(E:BX):E.N<=E.X0.w.heap.size:=by unfold BX.N;grind
abbrev TA:=@BX.N_le
def du{E:BX}(h:E.rk.isInl=false):E.N=E.X0.w.heap.size:=by unfold BX.N;split;rename_i a;rw[a]at h;cases h;rfl
structure JE(N:Nat)(X:Cx)(H:A')(Y:Cx)(H':A'):Prop where
 BJ:BZ Y H'
 le:X.le Y
 kp:E_ (λb=>N<=b\/Wk X H b) X.w Y.w
 Sn:∀ b i,Y.S b i->X.S b i\/N<=b\/Wk X H b
 on:∀ b,Wk Y H' b->N<=b\/Wk X H b
def BH.gn{X Y H H' N}(h:BH X H Y H')(a:N<=X.w.heap.size):JE N X H Y H':=
 ⟨h.BJ,h.le,h.kp.mono λ_ _ q=>.inr q,λb i c=>(h.Sn b i c).imp id (.imp (CT a) id),λb d=>(h.on b d).imp (CT a) id⟩
def JE.goes{X Y H H' N}(h:JE N X H Y H')(a:N=X.w.heap.size):BH X H Y H':=by subst a;exact⟨h.BJ,h.le,h.kp.mono λb c q=>q.resolve_left zo,h.Sn,h.on⟩
def JE.then{X Y Z H H' H'' N M}(h:JE N X H Y H')(k:JE M Y H' Z H'')(f:N<=M):JE N X H Z H'' where
 BJ:=k.BJ
 le:=h.le.trans k.le
 kp:=h.kp.trans k.kp (λb c e=>by rcases e with q|q;grind;exact h.on b q)
 Sn:=λb i d=>by rcases k.Sn b i d with a|a|a;exact h.Sn b i a;grind;exact .inr (h.on b a)
 on:=λb c=>by rcases k.on b c with a|a;grind;exact h.on b a
def Marks(N:Nat)(w:World):List Deferred->Prop
 |[]=>True|d::r=>(∃ D,d.target=.collected D/\N<=D/\w.heap[D]?=ae (.deferred (ae []))/\∀ e∈r,e.target ≠ .collected D)/\Marks N w r
def DefR(k:RK)(N:Nat)(X:Cx)(ds:List Deferred)(vs:List V):Prop:=match k with|.HF=>vs=[]/\Marks N X.w ds|_=>aa ds=aa vs/\∀ i h1 (h2:i<aa vs),∃ fn cap,ds[i].target=.fn fn cap/\AI X (.func fn ds[i].args cap) vs[i]
def DefR.nil{k N X ds}(h:DefR k N X ds [])(a:k ≠ .HF:=by exact RK.noConfusion):ds=[]:=by cases k with|HF=>grind|_=>exact GL.1 h.1
abbrev MD:=@DefR.nil
def DefR.none(k N X):DefR k N X [] []:=by cases k with|HF=>exact⟨rfl,AJ⟩|_=>exact⟨rfl,λi a h2=>by grind⟩
def Marks.mono{N w w'}(a:∀ D:Nat,w.heap[D]?=ae (Obj.deferred (ae []))->w'.heap[D]?=w.heap[D]?):∀ {ds},Marks N w ds->Marks N w' ds
 |[],_=>trivial|_::_,⟨⟨D,h1,h2,h3,h4⟩,h5⟩=>⟨⟨D,h1,h2,(a D h3).trans h3,h4⟩,Marks.mono a h5⟩
def DefR.mono{k N X Y ds vs}(h:DefR k N X ds vs)(c:X.le Y)(d:∀ D:Nat,X.w.heap[D]?=ae (Obj.deferred (ae []))->Y.w.heap[D]?=X.w.heap[D]?):DefR k N Y ds vs:=by cases k with|HF=>exact⟨h.1,h.2.mono d⟩|_=>exact⟨h.1,λi e h2=>let ⟨fn,cap,a,b⟩:=h.2 i e h2;⟨fn,cap,a,b.mono c⟩⟩
def BH.CG{X Y H H'}(d:BZ X H)(h:BH X H Y H'){b:Nat}{o}(i:X.w.heap[b]?=ae o)(m:∀ c t,o ≠ .cells c t (0,0))(h2:∀ r,o ≠ .loop r):Y.w.heap[b]?=X.w.heap[b]? := by refine h.kp.block b (DB.1 i).1 ?_;rintro(⟨e,c,g,n,p,s,a,k⟩|⟨e,r,a⟩);obtain⟨u,j,f,_,q,t,l,_⟩:=d.DQ _ _ _ _ _ a;grind;have:=(d.IA _ _ _ a).1;grind
def DefR.go{k N X Y H H' ds vs}(h:DefR k N X ds vs)(b:BZ X H)(a:BH X H Y H'):DefR k N Y ds vs:=
 h.mono a.le λ_ c=>a.CG b c (λ_ _ e=>by cases e) λ_ e=>by cases e
def AS.ev(E:BX)(s:AS):Operand->V
 |.tmp t=>s.τ t|.const v=>(OD v).getD .top|.global g=>E.G g|.func f=>.func (.func f) [] []
structure EF(E:BX)(X:Cx)(s:AS)(a:Act)(w:World):Prop where
 hw:X.w=w
 go:JE E.N E.X0 E.H0 X s.H
 df:DefR E.rk E.X0.w.heap.size X a.defers E.df
 sz:a.tmps.size=E.n
 tm:∀ t,AI X (a.tmps.getD t undef) (s.τ t)
 gl:∀ g,FI X g (E.G g)
def Ng(E:BX)(s:AS)(a:Act)(w:World):Prop:=∃ X,EF E X s a w
variable{P:Program}{E:BX}{X:Cx}{s:AS}{a:Act}{w:World}
def EF.size(h:EF E X s a w):E.N<=X.w.heap.size:=CT E.N_le h.go.kp.size
def EF.gz(h:EF E X s a w)(b:E.rk.isInl=false:=by rfl):BH E.X0 E.H0 X s.H:=h.go.goes (du b)
def EF.on_(h:EF E X s a w){Y H'}(b:BH X s.H Y H'):JE E.N E.X0 E.H0 Y H':=h.go.then (b.gn h.size) (BO _)
def EF.ev(h:EF E X s a w)(x):AI X (a.eval x) (s.ev E x):=by rcases x with t|v|g|f;exact h.tm t;simp only[AS.ev];rcases b:OD v with _|u;exact .top _;exact Dg X b;exact(h.gl g).CV;exact .func _ _ _ [] [] rfl rfl (λi c h2=>by grind) (λi c h2=>by grind)
def EF.step(h:EF E X s a w){Y H'}(e:BH X s.H Y H'){dst c v}(j:AI Y c v)(f:∀ d,dst=ae d->d<E.n):EF E Y (AS.put {s with H:=H'} dst v) (a.put dst c) Y.w where
 hw:=rfl
 go:=by have:=h.on_ e;cases dst<;>exact this
 df:=by cases dst<;>exact h.df.go h.go.BJ e
 sz:=by cases dst<;>simp[Act.put,h.sz]
 tm:=λt=>by
  have i:=(h.tm t).mono e.le;rcases dst with _|d;exact i;simp only[Act.put,AS.put,Ye];by_cases b:t=d;subst b;have:t<a.tmps.size:=by rw[h.sz];exact f _ rfl
  simp_all;simp only[b];have:(a.tmps.setIfInBounds d c).getD t undef=a.tmps.getD t undef:=by simp[HA,bU (FS b)]
  grind
 gl:=λg=>(h.gl g).go h.go.BJ e
