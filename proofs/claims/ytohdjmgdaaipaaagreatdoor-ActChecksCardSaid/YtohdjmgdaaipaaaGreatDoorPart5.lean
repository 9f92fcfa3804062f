/- Part 5 of the proof of a statement of seat YtohdjmgdaaipaaaGreatDoor: HsSat. -/
import Derived.Test.YtohdjmgdaaipaaaGreatDoorPart4
import Derived.Orders
set_option linter.unusedSimpArgs false
set_option linter.unusedVariables false
section
namespace Go.Hs
inductive AObj where
 | dead
 | cells (c:Col) (g fz:Nat) (cs:List V)
abbrev Heap:=Nat→AObj
def upd {α : Type} (f:Nat → α) (k:Nat) (x : α):Nat → α := fun n=>if n=k then x else f n
@[simp] theorem upd_same {α : Type} (f:Nat → α) (k:Nat) (x : α):upd f k x k=x:=by simp [upd]
theorem upd_other {α : Type} (f:Nat → α) {k n:Nat} (x : α) (h:n≠k):upd f k x n=f n:=by simp [upd,h]
def LiveB (X:Cx) (H:Heap) (b:Nat):Prop:=∃ o c g fz cs bs,H o = .cells c g fz cs∧X.β o g=some (b,bs)
structure Inv (X:Cx) (H:Heap):Prop where
 obj:∀ o c g fz cs,H o = .cells c g fz cs→∃ b bs,X.β o g=some (b,bs)∧c.ok X.base b ∧
  ∃ (c':Array Value) (t:TypeId),X.w.heap[b]? = some (Obj.cells c' t (0,0))∧bs+cs.length≤c'.size∧RelC X ((c'.toList.drop bs).take cs.length) cs
 inj:∀ o1 c1 g1 f1 l1 o2 c2 g2 f2 l2 b s1 s2,H o1 = .cells c1 g1 f1 l1→H o2 = .cells c2 g2 f2 l2→X.β o1 g1=some (b,s1)→X.β o2 g2=some (b,s2)→o1=o2
 safe:∀ b i,X.S b i→b<X.w.heap.size∧∀ o c g fz cs bs,H o = .cells c g fz cs→X.β o g=some (b,bs)→i<bs+fz
 fin:∀ o,∃ n,∀ g,n≤g→X.β o g=none
 bw:X.base≤X.w.heap.size
 thaw:∀ b i,X.S b i→X.base≤b→∃ c t,X.w.heap[b]? = some (Obj.cells c t (0,0))
structure Keep (M:Nat→Prop) (w w':World):Prop where
 os:w'.os=w.os
 tape:w'.tape=w.tape
 output:w'.output=w.output
 size:w.heap.size≤w'.heap.size
 block:∀ k,k<w.heap.size→¬ M k→w'.heap[k]? = w.heap[k]?
theorem Keep.refl (M:Nat→Prop) (w:World):Keep M w w:=⟨rfl,rfl,rfl,Nat.le_refl _,fun _ _ _=>rfl⟩
theorem Keep.mono {M M':Nat→Prop} {w w':World} (h:Keep M w w') (hm:∀ b,b<w.heap.size→M b→M' b):Keep M' w w' :=
 ⟨h.os,h.tape,h.output,h.size,fun k hk hn=>h.block k hk (fun hh=>hn (hm k hk hh))⟩
theorem Keep.trans {M M':Nat→Prop} {w w' w'':World} (h:Keep M w w') (k:Keep M' w' w'') (hm:∀ b,b<w.heap.size→M' b→M b):Keep M w w'' :=
 ⟨k.os.trans h.os,k.tape.trans h.tape,k.output.trans h.output,Nat.le_trans h.size k.size,fun b hb hn=>by
  rw [k.block b (Nat.lt_of_lt_of_le hb h.size) (fun hh=>hn (hm b hb hh)),h.block b hb hn]⟩
theorem Keep.below {w w':World} {M:Nat→Prop} (h:Keep M w w') (hm:∀ b,¬ M b):RowKit.Below w.heap.size w w' :=
 ⟨h.os,h.tape,h.output,h.size,fun k hk=>h.block k hk (hm k)⟩
structure Goes (X:Cx) (H:Heap) (Y:Cx) (H':Heap):Prop where
 inv:Inv Y H'
 le:X.le Y
 kp:Keep (LiveB X H) X.w Y.w
 Sn:∀ b i,Y.S b i→X.S b i∨X.w.heap.size≤b∨LiveB X H b
 on:∀ b,LiveB Y H' b→X.w.heap.size≤b∨LiveB X H b
theorem Goes.refl {X:Cx} {H:Heap} (h:Inv X H):Goes X H X H :=
 ⟨h,Cx.le.refl X,Keep.refl _ _,fun _ _ hs => .inl hs,fun _ hb => .inr hb⟩
theorem Goes.trans {X Y Z:Cx} {H H' H'':Heap} (h:Goes X H Y H') (k:Goes Y H' Z H''):Goes X H Z H'' where
 inv:=k.inv
 le:=h.le.trans k.le
 kp:=h.kp.trans k.kp (fun b hb hl=>(h.on b hl).resolve_left (by omega))
 Sn:=fun b i hs=>by
  rcases k.Sn b i hs with h1 | h1 | h1
  ·exact h.Sn b i h1
  ·exact .inr (.inl (Nat.le_trans h.kp.size h1))
  ·exact .inr (h.on b h1)
 on:=fun b hb=>by
  rcases k.on b hb with h1 | h1
  ·exact .inl (Nat.le_trans h.kp.size h1)
  ·exact h.on b h1
structure AS where
 τ : Nat→V
 H:Heap
def AS.put (s:AS) (dst:Option Nat) (v:V):AS :=
 match dst with
 | some d=>{ s with τ := upd s.τ d v }
 | none=>s
def SzK (X:Cx) (g:Nat):V→Prop
 | .view c (.agg cs)=>c.ok X.base g∧∃ (l:Array Value) (t:TypeId) (fr:Nat × Nat),X.w.heap[g]? = some (Obj.cells l t fr)∧l.size=cs.length
 | _=>True
structure RelG (X:Cx) (g:Nat) (v:V):Prop where
 rel:Rel X (.pointer (some ⟨g,0,none⟩)) v
 sz:SzK X g v
theorem SzK.go {X Y:Cx} {H H':Heap} {g:Nat} {v:V} (h:SzK X g v) (hI:Inv X H) (hg:Goes X H Y H'):SzK Y g v:=by
 unfold SzK at h ⊢
 split
 ·rename_i c cs
  simp only at h;obtain ⟨h0,l,t,fr,h1,h2⟩:=h
  have hlt:g<X.w.heap.size:=by rw [Array.getElem?_eq_some_iff] at h1;exact h1.1
  refine ⟨by rw [hg.le.base];exact h0,?_⟩
  by_cases hl:LiveB X H g
  ·obtain ⟨o,c,g',fz,cs',bs,ho,hβ⟩:=hl
   obtain ⟨b',bs',hβ',_,c',t',hb,_⟩:=hI.obj o c g' fz cs' ho;rw [hβ] at hβ';cases hβ';rw [h1] at hb;cases hb;obtain ⟨l',h3,h4⟩:=hg.le.blk _ _ _ h1;exact ⟨l',t,_,h3,h4.trans h2⟩
  ·exact ⟨l,t,fr,by rw [hg.kp.block g hlt hl];exact h1,h2⟩
 ·trivial
theorem RelG.go {X Y:Cx} {H H':Heap} {g:Nat} {v:V} (h:RelG X g v) (hI:Inv X H) (hg:Goes X H Y H'):RelG Y g v:=⟨h.rel.mono hg.le,h.sz.go hI hg⟩
theorem SzK.top (X:Cx) (g:Nat):SzK X g .top:=trivial
structure Ent where
 X0:Cx
 H0:Heap
 n:Nat
 q:Nat
 G:Nat→V
def AS.ev (E:Ent) (s:AS):Operand→V
 | .tmp t=>s.τ t
 | .const v=>(ofVal v).getD .top
 | .global g=>E.G g
 | .func f => .func (.func f) [] []
structure SatX (E:Ent) (X:Cx) (s:AS) (a:Act) (w:World):Prop where
 hw:X.w=w
 go:Goes E.X0 E.H0 X s.H
 df:a.defers=[]
 sz:a.tmps.size=E.n
 tm:∀ t,Rel X (a.tmps.getD t undef) (s.τ t)
 gl:∀ g,RelG X g (E.G g)
def Sat (E:Ent) (s:AS) (a:Act) (w:World):Prop:=∃ X,SatX E X s a w
variable {P:Program} {E:Ent} {X:Cx} {s:AS} {a:Act} {w:World}
theorem SatX.ev (h:SatX E X s a w) (x:Operand):Rel X (a.eval x) (s.ev E x):=by
 cases x with
 | tmp t=>exact h.tm t
 | const v =>
  simp only [Act.eval,AS.ev]
  cases hv:ofVal v with
  | none=>exact .top _
  | some u=>exact rel_ofVal X hv
 | global g=>exact (h.gl g).rel
 | func f=>exact .func (.func f) #[] #[] [] [] rfl rfl (fun i h1 h2=>by simp at h2) (fun i h1 h2=>by simp at h2)
theorem SatX.step (h:SatX E X s a w) {Y:Cx} {H':Heap} (hg:Goes X s.H Y H') {dst:Option Nat} {c:Value} {v:V} (hr:Rel Y c v) (hd:∀ d,dst=some d→d<E.n) :
  SatX E Y (AS.put { s with H:=H' } dst v) (a.put dst c) Y.w where
 hw:=rfl
 go:=by
  have:=h.go.trans hg
  cases dst<;>exact this
 df:=by cases dst<;>exact h.df
 sz:=by cases dst<;>simp [Act.put,h.sz]
 tm:=fun t=>by
  have h0:=(h.tm t).mono hg.le
  cases dst with
  | none=>exact h0
  | some d =>
   simp only [Act.put,AS.put,upd]
   by_cases htd:t=d
   ·subst htd
    have:t<a.tmps.size:=by rw [h.sz];exact hd _ rfl
    simp [this,hr]
   ·simp only [htd,if_false]
    have:(a.tmps.setIfInBounds d c).getD t undef=a.tmps.getD t undef:=by
     simp [Array.getD_eq_getD_getElem?,Array.getElem?_setIfInBounds_ne (Ne.symm htd)]
    rw [this];exact h0
 gl:=fun g=>(h.gl g).go h.go.inv hg
end Go.Hs
end
