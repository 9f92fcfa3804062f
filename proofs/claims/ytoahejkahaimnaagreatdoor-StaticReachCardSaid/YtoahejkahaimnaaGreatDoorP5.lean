/- A part. No condition. -/
import Derived.Test.YtoahejkahaimnaaGreatDoorP4
import Derived.Orders
set_option linter.all false
namespace Go.Hs
section
inductive AObj where
 |dead
 |cells (c:Col) (g fz:Nat) (cs:List V)
 |mp (lo b:Nat) (ks vs:List V)
 |lp (b:Nat) (r:Loop)
abbrev Heap:=Nat->AObj
def upd{α : Type}(f:Nat -> α)(k:Nat)(x : α):Nat -> α := λn=>if n=k then x else f n
@[simp] theorem Z3{α : Type}(f:Nat -> α)(k:Nat)(x : α):upd f k x k=x:=by simp[upd]
theorem Zi{α : Type}(f:Nat -> α){k n:Nat}(x : α)(h:n≠k):upd f k x n=f n:=by simp[upd,h]
def LiveB(X:Cx)(H:Heap)(b:Nat):Prop:=(∃ o c g fz cs bs,H o=.cells c g fz cs/\X.β o g=some (b,bs))\/∃ o r,H o=.lp b r
structure MpAt(X:Cx)(H:Heap)(o lo b:Nat)(ks vs:List V):Prop where
 lo:lo<=b
 free:¬ X.S b 0
 one:∀ o' lo' ks' vs',H o'=.mp lo' b ks' vs'->o'=o
 is:∃ es n,X.w.heap[b]?=some (Obj.map es n)/\es.size=ks.length/\es.size=vs.length/\(∀ i (h1:i<es.size) (h2:i<ks.length),Rel X es[i].key ks[i])/\(∀ i (h1:i<es.size) (h2:i<vs.length),Rel X es[i].val vs[i])
def MpOk(X:Cx)(H:Heap):Prop:=∀ o lo b ks vs,H o=.mp lo b ks vs->MpAt X H o lo b ks vs
theorem MpOk.no{X:Cx}{H:Heap}(h:∀ o lo b ks vs,H o=.mp lo b ks vs->False):MpOk X H:=λo lo b ks vs ho=>(h o lo b ks vs ho).elim
def LpOk(X:Cx)(H:Heap):Prop:=∀ o b r,H o=.lp b r->X.w.heap[b]?=some (.loop r)/\∀ o' r',H o'=.lp b r'->o'=o
theorem LpOk.no{X:Cx}{H:Heap}(h:∀ o b r,H o=.lp b r->False):LpOk X H:=λo b r ho=>(h o b r ho).elim
structure Inv(X:Cx)(H:Heap):Prop where
 obj:∀ o c g fz cs,H o=.cells c g fz cs->∃ b bs,X.β o g=some (b,bs)/\c.ok X.base b /\
  ∃ (c':Array Value) (t:TypeId),X.w.heap[b]?=some (Obj.cells c' t (0,0))/\bs+cs.length<=c'.size/\RelC X ((c'.toList.drop bs).take cs.length) cs
 inj:∀ o1 c1 g1 f1 l1 o2 c2 g2 f2 l2 b s1 s2,H o1=.cells c1 g1 f1 l1->H o2=.cells c2 g2 f2 l2->X.β o1 g1=some (b,s1)->X.β o2 g2=some (b,s2)->o1=o2
 safe:∀ b i,X.S b i->b<X.w.heap.size/\∀ o c g fz cs bs,H o=.cells c g fz cs->X.β o g=some (b,bs)->i<bs+fz
 fin:∀ o,∃ n,∀ g,n<=g->X.β o g=none
 bw:X.base<=X.w.heap.size
 thaw:∀ b i,X.S b i->X.base<=b->(∃ c t,X.w.heap[b]?=some (Obj.cells c t (0,0)))\/(i=0/\∃ es n,X.w.heap[b]?=some (Obj.map es n))
 mps:MpOk X H
 lps:LpOk X H
structure Keep(M:Nat->Prop)(w w':World):Prop where
 os:w'.os=w.os
 tape:w'.tape=w.tape
 output:w'.output=w.output
 size:w.heap.size<=w'.heap.size
 block:∀ k,k<w.heap.size->¬ M k->w'.heap[k]?=w.heap[k]?
theorem Keep.refl(M:Nat->Prop)(w:World):Keep M w w:=⟨rfl,rfl,rfl,Nat.le_refl _,λ_ _ _=>rfl⟩
theorem Keep.mono{M M':Nat->Prop}{w w':World}(h:Keep M w w')(hm:∀ b,b<w.heap.size->M b->M' b):Keep M' w w':=
 ⟨h.os,h.tape,h.output,h.size,λk hk hn=>h.block k hk (λhh=>hn (hm k hk hh))⟩
theorem Keep.trans{M M':Nat->Prop}{w w' w'':World}(h:Keep M w w')(k:Keep M' w' w'')(hm:∀ b,b<w.heap.size->M' b->M b):Keep M w w'':=
 ⟨k.os.trans h.os,k.tape.trans h.tape,k.output.trans h.output,Nat.le_trans h.size k.size,λb hb hn=>by
  rw[k.block b (Nat.lt_of_lt_of_le hb h.size) (λhh=>hn (hm b hb hh)),h.block b hb hn]⟩
theorem Keep.below{w w':World}{M:Nat->Prop}(h:Keep M w w')(hm:∀ b,¬ M b):RowKit.Below w.heap.size w w':=
 ⟨h.os,h.tape,h.output,h.size,λk hk=>h.block k hk (hm k)⟩
theorem Inv.not_live{X:Cx}{H:Heap}(h:Inv X H){b:Nat}{es:Array MapEntry}{n:Nat}(hb:X.w.heap[b]?=some (Obj.map es n)):¬ LiveB X H b:=by
 rintro(⟨o,c,g,fz,cs,bs,ho,hβ⟩|⟨o,r,ho⟩);obtain⟨b',bs',hβ',_,c',t,h3,_⟩:=h.obj o c g fz cs ho;rw[hβ]at hβ';cases hβ';rw[hb]at h3;cases h3;rw[(h.lps o b r ho).1]at hb;cases hb
theorem Inv.lps_tr{X Y:Cx}{H H':Heap}(h:Inv X H)(hsub:∀ o b r,H' o=.lp b r->H o=.lp b r)(hw:∀ (b:Nat) (r:Loop),X.w.heap[b]?=some (Obj.loop r)->Y.w.heap[b]?=X.w.heap[b]?):LpOk Y H':=by
 intro o b r ho;have h1:=h.lps o b r (hsub _ _ _ ho);exact⟨(hw b r h1.1).trans h1.1,λo' r' ho'=>h1.2 o' r' (hsub _ _ _ ho')⟩
theorem Inv.mps_tr{X Y:Cx}{H H':Heap}(h:Inv X H)(hle:X.le Y)(hsub:∀ o lo b ks vs,H' o=.mp lo b ks vs->H o=.mp lo b ks vs)(kp:Keep (LiveB X H) X.w Y.w)
  (Sn:∀ b i,Y.S b i->X.S b i\/X.w.heap.size<=b\/LiveB X H b):MpOk Y H':=by
 intro o lo b ks vs ho;obtain⟨h1,h2,h3,es,n,h4,h5,h6,h7,h8⟩:=h.mps o lo b ks vs (hsub _ _ _ _ _ ho);have hn:=h.not_live h4
 have hlt:b<X.w.heap.size:=by rw[Array.getElem?_eq_some_iff]at h4;exact h4.1
 refine⟨h1,λhs=>?_,λo' lo' ks' vs' ho'=>h3 _ _ _ _ (hsub _ _ _ _ _ ho'),es,n,(kp.block b hlt hn).trans h4,h5,h6,λi q1 q2=>(h7 i q1 q2).mono hle,λi q1 q2=>(h8 i q1 q2).mono hle⟩
 rcases Sn b 0 hs with q|q|q
 exact h2 q;omega;exact hn q
theorem Inv.thawC{X:Cx}{H:Heap}(h:Inv X H){b i:Nat}{x:Value}(hs:X.S b i)(hb:X.base<=b)(hc:X.cell b i=some x):∃ c t,X.w.heap[b]?=some (Obj.cells c t (0,0)):=by
 rcases h.thaw b i hs hb with q|⟨_,es,n,q⟩
 exact q;simp[Cx.cell,World.cell?,q]at hc
structure Goes(X:Cx)(H:Heap)(Y:Cx)(H':Heap):Prop where
 inv:Inv Y H'
 le:X.le Y
 kp:Keep (LiveB X H) X.w Y.w
 Sn:∀ b i,Y.S b i->X.S b i\/X.w.heap.size<=b\/LiveB X H b
 on:∀ b,LiveB Y H' b->X.w.heap.size<=b\/LiveB X H b
theorem Goes.refl{X:Cx}{H:Heap}(h:Inv X H):Goes X H X H:=
 ⟨h,Cx.le.refl X,Keep.refl _ _,λ_ _ hs=>.inl hs,λ_ hb=>.inr hb⟩
theorem Goes.trans{X Y Z:Cx}{H H' H'':Heap}(h:Goes X H Y H')(k:Goes Y H' Z H''):Goes X H Z H'' where
 inv:=k.inv
 le:=h.le.trans k.le
 kp:=h.kp.trans k.kp (λb hb hl=>(h.on b hl).resolve_left zo)
 Sn:=λb i hs=>by
  rcases k.Sn b i hs with h1|h1|h1
  exact h.Sn b i h1;exact .inr (.inl (Nat.le_trans h.kp.size h1));exact .inr (h.on b h1)
 on:=λb hb=>by
  rcases k.on b hb with h1|h1
  exact .inl (Nat.le_trans h.kp.size h1);exact h.on b h1
structure AS where
 τ : Nat->V
 H:Heap
def AS.put(s:AS)(dst:Option Nat)(v:V):AS:=
 match dst with
 |some d=>{ s with τ := upd s.τ d v }
 |none=>s
def SzK(X:Cx)(g:Nat):V->Prop
 |.view c (.agg cs)=>c.ok X.base g/\∃ (l:Array Value) (t:TypeId) (fr:Nat×Nat),X.w.heap[g]?=some (Obj.cells l t fr)/\l.size=cs.length
 |_=>True
structure RelG(X:Cx)(g:Nat)(v:V):Prop where
 rel:Rel X (.pointer (some ⟨g,0,none⟩)) v
 sz:SzK X g v
theorem SzK.go{X Y:Cx}{H H':Heap}{g:Nat}{v:V}(h:SzK X g v)(hI:Inv X H)(hg:Goes X H Y H'):SzK Y g v:=by
 unfold SzK at h⊢
 split
 rename_i c cs;simp only at h;obtain⟨h0,l,t,fr,h1,h2⟩:=h
 have hlt:g<X.w.heap.size:=by rw[Array.getElem?_eq_some_iff]at h1;exact h1.1
 refine⟨by rw[hg.le.base];exact h0,?_⟩
 by_cases hl:LiveB X H g
 rcases hl with ⟨o,c,g',fz,cs',bs,ho,hβ⟩|⟨o,r,ho⟩
 obtain⟨b',bs',hβ',_,c',t',hb,_⟩:=hI.obj o c g' fz cs' ho;rw[hβ]at hβ';cases hβ';rw[h1]at hb;cases hb;obtain⟨l',h3,h4⟩:=hg.le.blk _ _ _ h1;exact⟨l',t,_,h3,h4.trans h2⟩;have:=(hI.lps o g r ho).1;rw[h1]at this;cases this;exact⟨l,t,fr,by rw[hg.kp.block g hlt hl];exact h1,h2⟩
 trivial
theorem RelG.go{X Y:Cx}{H H':Heap}{g:Nat}{v:V}(h:RelG X g v)(hI:Inv X H)(hg:Goes X H Y H'):RelG Y g v:=⟨h.rel.mono hg.le,h.sz.go hI hg⟩
theorem SzK.top(X:Cx)(g:Nat):SzK X g .top:=trivial
inductive RK where
 |plain|marks|round (l:Nat)|inl (N:Nat)
structure Ent where
 X0:Cx
 H0:Heap
 n:Nat
 q:Nat
 G:Nat->V
 kp:Option (V->Heap->Prop):=none
 df:List V:=[]
 rk:RK:=.plain
def Ent.N(E:Ent):Nat:=match E.rk with
 |.inl N=>min N E.X0.w.heap.size
 |_=>E.X0.w.heap.size
def RK.isInl:RK->Bool
 |.inl _=>true
 |_=>false
theorem Ent.N_le(E:Ent):E.N<=E.X0.w.heap.size:=by
 unfold Ent.N
 split
 exact Nat.min_le_right _ _;exact Nat.le_refl _
theorem Zl7{E:Ent}(h:E.rk.isInl=false):E.N=E.X0.w.heap.size:=by
 unfold Ent.N
 split
 rename_i h1;rw[h1]at h;cases h;rfl
structure GoesN(N:Nat)(X:Cx)(H:Heap)(Y:Cx)(H':Heap):Prop where
 inv:Inv Y H'
 le:X.le Y
 kp:Keep (λb=>N<=b\/LiveB X H b) X.w Y.w
 Sn:∀ b i,Y.S b i->X.S b i\/N<=b\/LiveB X H b
 on:∀ b,LiveB Y H' b->N<=b\/LiveB X H b
theorem Goes.gn{X Y:Cx}{H H':Heap}{N:Nat}(h:Goes X H Y H')(hN:N<=X.w.heap.size):GoesN N X H Y H':=
 ⟨h.inv,h.le,h.kp.mono λ_ _ q=>.inr q,λb i hs=>(h.Sn b i hs).imp id (.imp (Nat.le_trans hN) id),λb hb=>(h.on b hb).imp (Nat.le_trans hN) id⟩
theorem GoesN.goes{X Y:Cx}{H H':Heap}{N:Nat}(h:GoesN N X H Y H')(hN:N=X.w.heap.size):Goes X H Y H':=by
 subst hN;exact⟨h.inv,h.le,h.kp.mono λb hb q=>q.resolve_left zo,h.Sn,h.on⟩
theorem GoesN.then{X Y Z:Cx}{H H' H'':Heap}{N M:Nat}(h:GoesN N X H Y H')(k:GoesN M Y H' Z H'')(hM:N<=M):GoesN N X H Z H'' where
 inv:=k.inv
 le:=h.le.trans k.le
 kp:=h.kp.trans k.kp (λb hb hl=>by
  rcases hl with q|q
  exact .inl (Nat.le_trans hM q)
  exact h.on b q)
 Sn:=λb i hs=>by
  rcases k.Sn b i hs with h1|h1|h1
  exact h.Sn b i h1;exact .inr (.inl (Nat.le_trans hM h1));exact .inr (h.on b h1)
 on:=λb hb=>by
  rcases k.on b hb with h1|h1
  exact .inl (Nat.le_trans hM h1);exact h.on b h1
def Marks(N:Nat)(w:World):List Deferred->Prop
 |[]=>True
 |d::r=>(∃ D,d.target=.collected D/\N<=D/\w.heap[D]?=some (.deferred (some []))/\∀ e∈r,e.target ≠ .collected D)/\Marks N w r
def DefR(k:RK)(N:Nat)(X:Cx)(ds:List Deferred)(vs:List V):Prop:=match k with
 |.marks=>vs=[]/\Marks N X.w ds
 |_=>ds.length=vs.length/\∀ i (h1:i<ds.length) (h2:i<vs.length),∃ fn cap,ds[i].target=.fn fn cap/\Rel X (.func fn ds[i].args cap) vs[i]
theorem DefR.nil{k:RK}{N:Nat}{X:Cx}{ds:List Deferred}(h:DefR k N X ds [])(hk:k ≠ .marks:=by exact RK.noConfusion):ds=[]:=by
 cases k with
 |marks=>exact absurd rfl hk
 |_=>exact List.length_eq_zero_iff.1 h.1
theorem DefR.none(k:RK)(N:Nat)(X:Cx):DefR k N X [] []:=by
 cases k with
 |marks=>exact⟨rfl,trivial⟩
 |_=>exact⟨rfl,λi h1 h2=>by simp at h2⟩
theorem Marks.mono{N:Nat}{w w':World}(hd:∀ D:Nat,w.heap[D]?=some (Obj.deferred (some []))->w'.heap[D]?=w.heap[D]?):∀ {ds:List Deferred},Marks N w ds->Marks N w' ds
 |[],_=>trivial
 |_::_,⟨⟨D,h1,h2,h3,h4⟩,h5⟩=>⟨⟨D,h1,h2,(hd D h3).trans h3,h4⟩,Marks.mono hd h5⟩
theorem DefR.mono{k:RK}{N:Nat}{X Y:Cx}{ds:List Deferred}{vs:List V}(h:DefR k N X ds vs)(hle:X.le Y)(hd:∀ D:Nat,X.w.heap[D]?=some (Obj.deferred (some []))->Y.w.heap[D]?=X.w.heap[D]?):DefR k N Y ds vs:=by
 cases k with
 |marks=>exact⟨h.1,h.2.mono hd⟩
 |_=>exact⟨h.1,λi h1 h2=>let ⟨fn,cap,a,b⟩:=h.2 i h1 h2;⟨fn,cap,a,b.mono hle⟩⟩
theorem Goes.same{X Y:Cx}{H H':Heap}(hI:Inv X H)(hg:Goes X H Y H'){b:Nat}{o:Obj}(hb:X.w.heap[b]?=some o)(h1:∀ c t,o ≠ .cells c t (0,0))(h2:∀ r,o ≠ .loop r):Y.w.heap[b]?=X.w.heap[b]? := by
 refine hg.kp.block b (Array.getElem?_eq_some_iff.1 hb).1 ?_;rintro(⟨o',c,g,fz,cs,bs,ho,hβ⟩|⟨o',r,ho⟩);obtain⟨b',bs',hβ',_,c',t,h3,_⟩:=hI.obj _ _ _ _ _ ho;rw[hβ]at hβ';cases hβ';rw[hb]at h3;cases h3;exact h1 _ _ rfl;have:=(hI.lps _ _ _ ho).1;rw[hb]at this;cases this;exact h2 _ rfl
theorem DefR.go{k:RK}{N:Nat}{X Y:Cx}{H H':Heap}{ds:List Deferred}{vs:List V}(h:DefR k N X ds vs)(hI:Inv X H)(hg:Goes X H Y H'):DefR k N Y ds vs:=
 h.mono hg.le λ_ hD=>hg.same hI hD (λ_ _ e=>by cases e) λ_ e=>by cases e
def AS.ev(E:Ent)(s:AS):Operand->V
 |.tmp t=>s.τ t
 |.const v=>(Zc0 v).getD .top
 |.global g=>E.G g
 |.func f=>.func (.func f) [] []
structure SatX(E:Ent)(X:Cx)(s:AS)(a:Act)(w:World):Prop where
 hw:X.w=w
 go:GoesN E.N E.X0 E.H0 X s.H
 df:DefR E.rk E.X0.w.heap.size X a.defers E.df
 sz:a.tmps.size=E.n
 tm:∀ t,Rel X (a.tmps.getD t undef) (s.τ t)
 gl:∀ g,RelG X g (E.G g)
def Sat(E:Ent)(s:AS)(a:Act)(w:World):Prop:=∃ X,SatX E X s a w
variable{P:Program}{E:Ent}{X:Cx}{s:AS}{a:Act}{w:World}
theorem SatX.size(h:SatX E X s a w):E.N<=X.w.heap.size:=Nat.le_trans E.N_le h.go.kp.size
theorem SatX.gz(h:SatX E X s a w)(hk:E.rk.isInl=false:=by rfl):Goes E.X0 E.H0 X s.H:=h.go.goes (Zl7 hk)
theorem SatX.on_(h:SatX E X s a w){Y:Cx}{H':Heap}(hg:Goes X s.H Y H'):GoesN E.N E.X0 E.H0 Y H':=h.go.then (hg.gn h.size) (Nat.le_refl _)
theorem SatX.ev(h:SatX E X s a w)(x:Operand):Rel X (a.eval x) (s.ev E x):=by
 cases x with
 |tmp t=>exact h.tm t
 |const v=>
  simp only[Act.eval,AS.ev]
  cases hv:Zc0 v with
  |none=>exact .top _
  |some u=>exact Zrn X hv
 |global g=>exact(h.gl g).rel
 |func f=>exact .func (.func f) #[] #[] [] [] rfl rfl (λi h1 h2=>by simp at h2) (λi h1 h2=>by simp at h2)
theorem SatX.step(h:SatX E X s a w){Y:Cx}{H':Heap}(hg:Goes X s.H Y H'){dst:Option Nat}{c:Value}{v:V}(hr:Rel Y c v)(hd:∀ d,dst=some d->d<E.n):
  SatX E Y (AS.put { s with H:=H' } dst v) (a.put dst c) Y.w where
 hw:=rfl
 go:=by
  have:=h.on_ hg
  cases dst<;>exact this
 df:=by cases dst<;>exact h.df.go h.go.inv hg
 sz:=by cases dst<;>simp[Act.put,h.sz]
 tm:=λt=>by
  have h0:=(h.tm t).mono hg.le
  cases dst with
  |none=>exact h0
  |some d=>
   simp only[Act.put,AS.put,upd]
   by_cases htd:t=d
   subst htd
   have:t<a.tmps.size:=by rw[h.sz];exact hd _ rfl
   simp[this,hr];simp only[htd,if_false]
   have:(a.tmps.setIfInBounds d c).getD t undef=a.tmps.getD t undef:=by
    simp[Array.getD_eq_getD_getElem?,Array.getElem?_setIfInBounds_ne (Ne.symm htd)]
   rw[this];exact h0
 gl:=λg=>(h.gl g).go h.go.inv hg
end
end Go.Hs
