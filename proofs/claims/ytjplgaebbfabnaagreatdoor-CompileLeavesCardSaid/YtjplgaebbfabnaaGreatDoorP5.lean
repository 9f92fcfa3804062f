/- A part. No condition. -/
import Derived.Test.YtjplgaebbfabnaaGreatDoorP4
import Derived.Orders
set_option linter.all false
namespace Go.Hs
section
inductive AObj where
 |dead
 |cells (c:Col) (g fz:Nat) (cs:List V)
 |mp (lo b:Nat) (ks vs:List V)
 |lp (b:Nat) (r:Loop)
abbrev Heap:=Nat->AObj
def Ya{α : Type}(f:Nat -> α)(k:Nat)(x : α):Nat -> α := λn=>if n=k then x else f n
@[simp] theorem Ym{α : Type}(f:Nat -> α)(k:Nat)(x : α):Ya f k x k=x:=by simp[Ya]
theorem Zp{α : Type}(f:Nat -> α){k n:Nat}(x : α)(h:n≠k):Ya f k x n=f n:=by simp[Ya,h]
def Xx(X:Cx)(H:Heap)(b:Nat):Prop:=(∃ o c g fz cs bs,H o=.cells c g fz cs/\X.β o g=some (b,bs))\/∃ o r,H o=.lp b r
structure MpAt(X:Cx)(H:Heap)(o lo b:Nat)(ks vs:List V):Prop where
 lo:lo<=b
 free:¬ X.S b 0
 one:∀ o' lo' ks' vs',H o'=.mp lo' b ks' vs'->o'=o
 is:∃ es n,X.w.heap[b]?=some (Obj.map es n)/\es.size=ks.length/\es.size=vs.length/\(∀ i (h1:i<es.size) (h2:i<ks.length),Rel X es[i].key ks[i])/\(∀ i (h1:i<es.size) (h2:i<vs.length),Rel X es[i].val vs[i])
def MpOk(X:Cx)(H:Heap):Prop:=∀ o lo b ks vs,H o=.mp lo b ks vs->MpAt X H o lo b ks vs
theorem MpOk.no{X:Cx}{H:Heap}(h:∀ o lo b ks vs,H o=.mp lo b ks vs->False):MpOk X H:=λo lo b ks vs a=>(h o lo b ks vs a).elim
def LpOk(X:Cx)(H:Heap):Prop:=∀ o b r,H o=.lp b r->X.w.heap[b]?=some (.loop r)/\∀ o' r',H o'=.lp b r'->o'=o
theorem LpOk.no{X:Cx}{H:Heap}(h:∀ o b r,H o=.lp b r->False):LpOk X H:=λo b r a=>(h o b r a).elim
structure Inv(X:Cx)(H:Heap):Prop where
 obj:∀ o c g fz cs,H o=.cells c g fz cs->∃ b bs,X.β o g=some (b,bs)/\c.ok X.base b /\
  ∃ (c':Array Value) (t:TypeId),X.w.heap[b]?=some (Obj.cells c' t (0,0))/\bs+cs.length<=c'.size/\RelC X ((c'.toList.drop bs).take cs.length) cs
 inj:∀ o1 c1 g1 f1 l1 o2 c2 g2 f2 l2 b s1 s2,H o1=.cells c1 g1 f1 l1->H o2=.cells c2 g2 f2 l2->X.β o1 g1=some (b,s1)->X.β o2 g2=some (b,s2)->o1=o2
 safe:∀ b i,X.S b i->b<X.w.heap.size/\∀ o c g fz cs bs,H o=.cells c g fz cs->X.β o g=some (b,bs)->i<bs+fz
 fin:∀ o,∃ n,∀ g,n<=g->X.β o g=none
 bw:X.base<=X.w.heap.size
 thaw:∀ b i,X.S b i->X.base<=b->(∃ c t,X.w.heap[b]?=some (Obj.cells c t (0,0)))\/(i=0/\∃ es n,X.w.heap[b]?=some (Obj.map es n))
 mps:MpOk X H
 lps:LpOk X H
structure Keep(M:Nat->Prop)(w w':World):Prop where
 os:w'.os=w.os
 tape:w'.tape=w.tape
 output:w'.output=w.output
 size:w.heap.size<=w'.heap.size
 block:∀ k,k<w.heap.size->¬ M k->w'.heap[k]?=w.heap[k]?
theorem Keep.refl(M:Nat->Prop)(w:World):Keep M w w:=⟨rfl,rfl,rfl,Nat.le_refl _,λ_ _ _=>rfl⟩
theorem Keep.mono{M c:Nat->Prop}{w w':World}(h:Keep M w w')(e:∀ b,b<w.heap.size->M b->c b):Keep c w w':=
 ⟨h.os,h.tape,h.output,h.size,λk a d=>h.block k a (λf=>d (e k a f))⟩
theorem Keep.trans{M e:Nat->Prop}{w w' a:World}(h:Keep M w w')(k:Keep e w' a)(f:∀ b,b<w.heap.size->e b->M b):Keep M w a:=
 ⟨k.os.trans h.os,k.tape.trans h.tape,k.output.trans h.output,Nat.le_trans h.size k.size,λb c d=>by
  rw[k.block b (Nat.lt_of_lt_of_le c h.size) (λg=>d (f b c g)),h.block b c d]⟩
theorem Keep.below{w w':World}{M:Nat->Prop}(h:Keep M w w')(a:∀ b,¬ M b):RowKit.Below w.heap.size w w':=
 ⟨h.os,h.tape,h.output,h.size,λk c=>h.block k c (a k)⟩
theorem Inv.not_live{X:Cx}{H:Heap}(h:Inv X H){b:Nat}{es:Array MapEntry}{n:Nat}(d:X.w.heap[b]?=some (Obj.map es n)):¬ Xx X H b:=by
 rintro(⟨o,c,g,f,i,p,a,k⟩|⟨o,r,a⟩);obtain⟨q,j,e,_,m,t,l,_⟩:=h.obj o c g f i a
 grind
 rw[(h.lps o b r a).1]at d;cases d
theorem Inv.lps_tr{X Y:Cx}{H H':Heap}(h:Inv X H)(a:∀ o b r,H' o=.lp b r->H o=.lp b r)(d:∀ (b:Nat) (r:Loop),X.w.heap[b]?=some (Obj.loop r)->Y.w.heap[b]?=X.w.heap[b]?):LpOk Y H':=by
 intro o b r c;have e:=h.lps o b r (a _ _ _ c)
 grind
theorem Inv.mps_tr{X Y:Cx}{H H':Heap}(h:Inv X H)(c:X.le Y)(a:∀ o lo b ks vs,H' o=.mp lo b ks vs->H o=.mp lo b ks vs)(kp:Keep (Xx X H) X.w Y.w)
  (B:∀ b i,Y.S b i->X.S b i\/X.w.heap.size<=b\/Xx X H b):MpOk Y H':=by
 intro o lo b ks vs p;obtain⟨x,A,v,es,n,d,u,t,s,r⟩:=h.mps o lo b ks vs (a _ _ _ _ _ p);have q:=h.not_live d
 have j:b<X.w.heap.size:=by rw[Array.getElem?_eq_some_iff]at d;exact d.1
 refine⟨x,λz=>?_,λy l m k g=>v _ _ _ _ (a _ _ _ _ _ g),es,n,(kp.block b j q).trans d,u,t,λi f e=>(s i f e).mono c,λi f e=>(r i f e).mono c⟩
 grind
structure Goes(X:Cx)(H:Heap)(Y:Cx)(H':Heap):Prop where
 inv:Inv Y H'
 le:X.le Y
 kp:Keep (Xx X H) X.w Y.w
 Sn:∀ b i,Y.S b i->X.S b i\/X.w.heap.size<=b\/Xx X H b
 on:∀ b,Xx Y H' b->X.w.heap.size<=b\/Xx X H b
theorem Goes.refl{X:Cx}{H:Heap}(h:Inv X H):Goes X H X H:=
 ⟨h,Cx.le.refl X,Keep.refl _ _,λ_ _ a=>.inl a,λ_ b=>.inr b⟩
theorem Goes.trans{X Y Z:Cx}{H H' c:Heap}(h:Goes X H Y H')(k:Goes Y H' Z c):Goes X H Z c where
 inv:=k.inv
 le:=h.le.trans k.le
 kp:=h.kp.trans k.kp (λb d f=>(h.on b f).resolve_left zo)
 Sn:=λb i e=>by
  rcases k.Sn b i e with a|a|a
  exact h.Sn b i a;exact .inr (.inl (Nat.le_trans h.kp.size a));exact .inr (h.on b a)
 on:=λb d=>by
  rcases k.on b d with a|a
  exact .inl (Nat.le_trans h.kp.size a);exact h.on b a
structure AS where
 τ : Nat->V
 H:Heap
def AS.put(s:AS)(dst:Option Nat)(v:V):AS:=
 match dst with
 |some d=>{ s with τ := Ya s.τ d v }
 |none=>s
def SzK(X:Cx)(g:Nat):V->Prop
 |.view c (.agg cs)=>c.ok X.base g/\∃ (l:Array Value) (t:TypeId) (fr:Nat×Nat),X.w.heap[g]?=some (Obj.cells l t fr)/\l.size=cs.length
 |_=>True
structure RelG(X:Cx)(g:Nat)(v:V):Prop where
 rel:Rel X (.pointer (some ⟨g,0,none⟩)) v
 sz:SzK X g v
theorem SzK.go{X Y:Cx}{H H':Heap}{g:Nat}{v:V}(h:SzK X g v)(m:Inv X H)(e:Goes X H Y H'):SzK Y g v:=by
 unfold SzK at h⊢
 split
 obtain⟨q,l,t,x,f,p⟩:=h
 have d:g<X.w.heap.size:=by grind
 refine⟨by rw[e.le.base];exact q,?_⟩
 by_cases j:Xx X H g
 rcases j with ⟨o,c,s,u,i,E,b,n⟩|⟨o,r,b⟩
 obtain⟨F,y,a,_,D,z,k,_⟩:=m.obj o c s u i b;rw[n]at a;cases a;rw[f]at k;cases k;obtain⟨A,C,B⟩:=e.le.blk _ _ _ f
 grind
 have:=(m.lps o g r b).1
 grind
 exact⟨l,t,x,by rw[e.kp.block g d j];exact f,p⟩
 trivial
theorem RelG.go{X Y:Cx}{H H':Heap}{g:Nat}{v:V}(h:RelG X g v)(b:Inv X H)(a:Goes X H Y H'):RelG Y g v:=⟨h.rel.mono a.le,h.sz.go b a⟩
inductive RK where
 |plain|marks|round (l:Nat)|inl (N:Nat)
structure Ent where
 X0:Cx
 H0:Heap
 n:Nat
 q:Nat
 G:Nat->V
 kp:Option (V->Heap->Prop):=none
 df:List V:=[]
 rk:RK:=.plain
def Ent.N(E:Ent):Nat:=match E.rk with
 |.inl N=>min N E.X0.w.heap.size
 |_=>E.X0.w.heap.size
def RK.isInl:RK->Bool
 |.inl _=>true
 |_=>false
theorem Ent.N_le(E:Ent):E.N<=E.X0.w.heap.size:=by
 unfold Ent.N
 grind
theorem Z9p{E:Ent}(h:E.rk.isInl=false):E.N=E.X0.w.heap.size:=by
 unfold Ent.N
 split
 rename_i a;rw[a]at h;cases h;rfl
structure GoesN(N:Nat)(X:Cx)(H:Heap)(Y:Cx)(H':Heap):Prop where
 inv:Inv Y H'
 le:X.le Y
 kp:Keep (λb=>N<=b\/Xx X H b) X.w Y.w
 Sn:∀ b i,Y.S b i->X.S b i\/N<=b\/Xx X H b
 on:∀ b,Xx Y H' b->N<=b\/Xx X H b
theorem Goes.gn{X Y:Cx}{H H':Heap}{N:Nat}(h:Goes X H Y H')(a:N<=X.w.heap.size):GoesN N X H Y H':=
 ⟨h.inv,h.le,h.kp.mono λ_ _ q=>.inr q,λb i c=>(h.Sn b i c).imp id (.imp (Nat.le_trans a) id),λb d=>(h.on b d).imp (Nat.le_trans a) id⟩
theorem GoesN.goes{X Y:Cx}{H H':Heap}{N:Nat}(h:GoesN N X H Y H')(a:N=X.w.heap.size):Goes X H Y H':=by
 subst a;exact⟨h.inv,h.le,h.kp.mono λb c q=>q.resolve_left zo,h.Sn,h.on⟩
theorem GoesN.then{X Y Z:Cx}{H H' c:Heap}{N M:Nat}(h:GoesN N X H Y H')(k:GoesN M Y H' Z c)(g:N<=M):GoesN N X H Z c where
 inv:=k.inv
 le:=h.le.trans k.le
 kp:=h.kp.trans k.kp (λb d f=>by
  rcases f with q|q
  grind
  exact h.on b q)
 Sn:=λb i e=>by
  rcases k.Sn b i e with a|a|a
  exact h.Sn b i a
  grind
  exact .inr (h.on b a)
 on:=λb d=>by
  rcases k.on b d with a|a
  grind
  exact h.on b a
def Marks(N:Nat)(w:World):List Deferred->Prop
 |[]=>True
 |d::r=>(∃ D,d.target=.collected D/\N<=D/\w.heap[D]?=some (.deferred (some []))/\∀ e∈r,e.target ≠ .collected D)/\Marks N w r
def DefR(k:RK)(N:Nat)(X:Cx)(ds:List Deferred)(vs:List V):Prop:=match k with
 |.marks=>vs=[]/\Marks N X.w ds
 |_=>ds.length=vs.length/\∀ i (h1:i<ds.length) (h2:i<vs.length),∃ fn cap,ds[i].target=.fn fn cap/\Rel X (.func fn ds[i].args cap) vs[i]
theorem DefR.nil{k:RK}{N:Nat}{X:Cx}{a:List Deferred}(h:DefR k N X a [])(b:k ≠ .marks:=by exact RK.noConfusion):a=[]:=by
 cases k with
 |marks=>grind
 |_=>exact List.length_eq_zero_iff.1 h.1
theorem DefR.none(k:RK)(N:Nat)(X:Cx):DefR k N X [] []:=by
 cases k with
 |marks=>exact⟨rfl,trivial⟩
 |_=>exact⟨rfl,λi b a=>by grind⟩
theorem Marks.mono{N:Nat}{w w':World}(a:∀ D:Nat,w.heap[D]?=some (Obj.deferred (some []))->w'.heap[D]?=w.heap[D]?):∀ {ds:List Deferred},Marks N w ds->Marks N w' ds
 |[],_=>trivial
 |_::_,⟨⟨D,h1,h2,h3,h4⟩,h5⟩=>⟨⟨D,h1,h2,(a D h3).trans h3,h4⟩,Marks.mono a h5⟩
theorem DefR.mono{k:RK}{N:Nat}{X Y:Cx}{d:List Deferred}{vs:List V}(h:DefR k N X d vs)(c:X.le Y)(e:∀ D:Nat,X.w.heap[D]?=some (Obj.deferred (some []))->Y.w.heap[D]?=X.w.heap[D]?):DefR k N Y d vs:=by
 cases k with
 |marks=>exact⟨h.1,h.2.mono e⟩
 |_=>exact⟨h.1,λi g f=>let ⟨fn,cap,a,b⟩:=h.2 i g f;⟨fn,cap,a,b.mono c⟩⟩
theorem Goes.same{X Y:Cx}{H H':Heap}(d:Inv X H)(h:Goes X H Y H'){b:Nat}{o:Obj}(i:X.w.heap[b]?=some o)(n:∀ c t,o ≠ .cells c t (0,0))(m:∀ r,o ≠ .loop r):Y.w.heap[b]?=X.w.heap[b]? := by
 refine h.kp.block b (Array.getElem?_eq_some_iff.1 i).1 ?_;rintro(⟨e,c,g,p,q,u,a,k⟩|⟨e,r,a⟩);obtain⟨v,j,f,_,s,t,l,_⟩:=d.obj _ _ _ _ _ a
 grind
 have:=(d.lps _ _ _ a).1
 grind
theorem DefR.go{k:RK}{N:Nat}{X Y:Cx}{H H':Heap}{b:List Deferred}{vs:List V}(h:DefR k N X b vs)(c:Inv X H)(a:Goes X H Y H'):DefR k N Y b vs:=
 h.mono a.le λ_ d=>a.same c d (λ_ _ e=>by cases e) λ_ e=>by cases e
def AS.ev(E:Ent)(s:AS):Operand->V
 |.tmp t=>s.τ t
 |.const v=>(Cg v).getD .top
 |.global g=>E.G g
 |.func f=>.func (.func f) [] []
structure SatX(E:Ent)(X:Cx)(s:AS)(a:Act)(w:World):Prop where
 hw:X.w=w
 go:GoesN E.N E.X0 E.H0 X s.H
 df:DefR E.rk E.X0.w.heap.size X a.defers E.df
 sz:a.tmps.size=E.n
 tm:∀ t,Rel X (a.tmps.getD t undef) (s.τ t)
 gl:∀ g,RelG X g (E.G g)
def Mb(E:Ent)(s:AS)(a:Act)(w:World):Prop:=∃ X,SatX E X s a w
variable{P:Program}{E:Ent}{X:Cx}{s:AS}{a:Act}{w:World}
theorem SatX.size(h:SatX E X s a w):E.N<=X.w.heap.size:=Nat.le_trans E.N_le h.go.kp.size
theorem SatX.gz(h:SatX E X s a w)(b:E.rk.isInl=false:=by rfl):Goes E.X0 E.H0 X s.H:=h.go.goes (Z9p b)
theorem SatX.on_(h:SatX E X s a w){Y:Cx}{H':Heap}(b:Goes X s.H Y H'):GoesN E.N E.X0 E.H0 Y H':=h.go.then (b.gn h.size) (Nat.le_refl _)
theorem SatX.ev(h:SatX E X s a w)(x:Operand):Rel X (a.eval x) (s.ev E x):=by
 cases x with
 |tmp t=>exact h.tm t
 |const v=>
  simp only[AS.ev]
  cases b:Cg v with
  |none=>exact .top _
  |some u=>exact Hl X b
 |global g=>exact(h.gl g).rel
 |func f=>exact .func (.func f) #[] #[] [] [] rfl rfl (λi d c=>by grind) (λi d c=>by grind)
theorem SatX.step(h:SatX E X s a w){Y:Cx}{H':Heap}(e:Goes X s.H Y H'){dst:Option Nat}{c:Value}{v:V}(j:Rel Y c v)(f:∀ d,dst=some d->d<E.n):
  SatX E Y (AS.put { s with H:=H' } dst v) (a.put dst c) Y.w where
 hw:=rfl
 go:=by
  have:=h.on_ e
  cases dst<;>exact this
 df:=by cases dst<;>exact h.df.go h.go.inv e
 sz:=by cases dst<;>simp[Act.put,h.sz]
 tm:=λt=>by
  have i:=(h.tm t).mono e.le
  cases dst with
  |none=>exact i
  |some d=>
   simp only[Act.put,AS.put,Ya]
   by_cases b:t=d
   subst b
   have:t<a.tmps.size:=by rw[h.sz];exact f _ rfl
   simp_all;simp only[b]
   have:(a.tmps.setIfInBounds d c).getD t undef=a.tmps.getD t undef:=by
    simp[Array.getD_eq_getD_getElem?,Array.getElem?_setIfInBounds_ne (Ne.symm b)]
   grind
 gl:=λg=>(h.gl g).go h.go.inv e
end
end Go.Hs
