/- Part 14 of a proof; no condition. -/
import Derived.Test.YtegjlbpnpiigkaaGreatDoorPart13
set_option linter.unusedSimpArgs false
set_option linter.unusedVariables false
section
namespace Go.Hs
section
variable {P:Program} {E:Ent} {s:AS} {a:Act} {w:World}
inductive Cv (F:Nat→Bool) (H:Heap) (col:Col→Col) (B:V→V→Prop):V→V→Prop
 | base (v v':V) (h:B v v'):Cv F H col B v v'
 | msl (o g off len E:Nat) (c:Col) (fz:Nat) (cs l:List V) (hF:F o=true) (ho:H o = .cells c g fz cs) (hl:l.length=len) (hE:∀ v∈l,v.cells.length=E) (hfit:off+len * E≤cs.length)
   (hr:∀ i (h1:off+i<cs.length) (h2:i<(flat l).length),Cv F H col B cs[off+i] (flat l)[i]):Cv F H col B (.msl o g off len E) (.slice (col c) false E l)
 | ptr (o g off:Nat) (c:Col) (fz:Nat) (cs:List V) (v:V) (hF:F o=true) (ho:H o = .cells c g fz cs) (hfit:off+v.cells.length≤cs.length)
   (hr:∀ i (h1:off+i<cs.length) (h2:i<v.cells.length),Cv F H col B cs[off+i] v.cells[i]):Cv F H col B (.ptr o g off) (.view (col c) v)
 | func (fn:Fn) (xs ys xs' ys':List V) (hx:xs.length=xs'.length) (hy:ys.length=ys'.length) (hxr:∀ i (h1:i<xs.length) (h2:i<xs'.length),Cv F H col B xs[i] xs'[i])
   (hyr:∀ i (h1:i<ys.length) (h2:i<ys'.length),Cv F H col B ys[i] ys'[i]):Cv F H col B (.func fn xs ys) (.func fn xs' ys')
 | iface (t:TypeId) (v v':V) (h:Cv F H col B v v'):Cv F H col B (.iface t v) (.iface t v')
 | agg (xs xs':List V) (hx:xs.length=xs'.length) (hr:∀ i (h1:i<xs.length) (h2:i<xs'.length),Cv F H col B xs[i] xs'[i]):Cv F H col B (.agg xs) (.agg xs')
 | tuple (xs xs':List V) (hx:xs.length=xs'.length) (hr:∀ i (h1:i<xs.length) (h2:i<xs'.length),Cv F H col B xs[i] xs'[i]):Cv F H col B (.tuple xs) (.tuple xs')
theorem Cv.rel {F:Nat→Bool} {H:Heap} {col:Col→Col} {B:V→V→Prop} {X Y:Cx} (hI:Inv X H) (hB:∀ x v v',B v v'→Rel X x v→Rel Y x v')
  (hF:∀ o c g fz cs b bs,F o=true→H o = .cells c g fz cs→X.β o g=some (b,bs)→(col c).ok Y.base b∧∀ i,i<cs.length→Y.S b (bs+i))
  (hcell:∀ b i x,X.cell b i=some x→Y.cell b i=some x) {v v':V} (h:Cv F H col B v v'):∀ {x:Value},Rel X x v→Rel Y x v':=by
 induction h with
 | base v v' h=>exact fun hr=>hB _ _ _ h hr
 | msl o g off len E c fz cs l hFo ho hl hE hfit hr ih =>
  intro x hx
  cases hx with
  | msl _ _ _ _ _ b bs cap hβ hcap hb =>
   obtain ⟨hok,hS⟩:=hF o c g fz cs b bs hFo ho hβ;obtain ⟨c1,t,hb1,hfit1,hC⟩:=hI.cells ho hβ;have hfl:=Zvb hE;have hlen:=hC.len
   have hget:∀ i (hi:i<cs.length),∃ y,((c1.toList.drop bs).take cs.length)[i]? = some y∧X.cell b (bs+i)=some y∧y.oneCell'=true∧Rel X y cs[i]:=by
    intro i hi;obtain ⟨y,h1,h2,h3⟩:=hC.get? (List.getElem?_eq_getElem hi);refine ⟨y,h1,?_,h3,h2⟩;rw [Zgc hi] at h1
    show X.w.cell? ⟨b,bs+i,none⟩=some y
    rw [Z4g hb1];simpa using h1
   have:=Rel.slice (X:=Y) (col c) false E l b (bs+off) cap (fun i=>((c1.toList.drop bs).take cs.length).getD (off+i) undef) (by omega) (by simp) hE
    (fun i hi=>by
     obtain ⟨y,h1,h2,h3,_⟩:=hget (off+i) (by rw [hfl,hl] at hi;omega);refine ⟨by have:=hS (off+i) (by rw [hfl,hl] at hi;omega);rwa [← Nat.add_assoc] at this,hok,?_,?_⟩
     ·have:=hcell _ _ _ h2
      rw [← Nat.add_assoc] at this;rw [this];simp [List.getD,h1]
     ·simp [List.getD,h1,h3])
    (fun i hi=>by
     have hi':off+i<cs.length:=by rw [hfl,hl] at hi;omega
     obtain ⟨y,h1,_,_,h4⟩:=hget (off+i) hi';have:=ih i hi' hi h4
     simpa [List.getD,h1] using this)
   rw [hl] at this;exact this
 | ptr o g off c fz cs v hFo ho hfit hr ih =>
  intro x hx
  cases hx with
  | ptr _ _ _ b bs hβ =>
   obtain ⟨hok,hS⟩:=hF o c g fz cs b bs hFo ho hβ;obtain ⟨c1,t,hb1,hfit1,hC⟩:=hI.cells ho hβ
   have hget:∀ i (hi:i<cs.length),∃ y,((c1.toList.drop bs).take cs.length)[i]? = some y∧X.cell b (bs+i)=some y∧y.oneCell'=true∧Rel X y cs[i]:=by
    intro i hi;obtain ⟨y,h1,h2,h3⟩:=hC.get? (List.getElem?_eq_getElem hi);refine ⟨y,h1,?_,h3,h2⟩;rw [Zgc hi] at h1
    show X.w.cell? ⟨b,bs+i,none⟩=some y
    rw [Z4g hb1];simpa using h1
   refine .view (col c) v b (bs+off) (fun i=>((c1.toList.drop bs).take cs.length).getD (off+i) undef) (fun i hi=>?_) (fun i hi=>?_)
   ·obtain ⟨y,h1,h2,h3,_⟩:=hget (off+i) (by omega)
    refine ⟨by have:=hS (off+i) (by omega);rwa [← Nat.add_assoc] at this,hok,?_,?_⟩
    ·have:=hcell _ _ _ h2
     rw [← Nat.add_assoc] at this;rw [this];simp [List.getD,h1]
    ·simp [List.getD,h1,h3]
   ·have hi':off+i<cs.length:=by omega
    obtain ⟨y,h1,_,_,h4⟩:=hget (off+i) hi';have:=ih i hi' hi h4;simpa [List.getD,h1] using this
 | func fn xs ys xs' ys' hx hy hxr hyr ihx ihy =>
  intro x h
  cases h with
  | func _ as bs _ _ h1 h2 h3 h4 =>
   exact .func fn as bs _ _ (by omega) (by omega) (fun i a b=>ihx i (by omega) b (h3 i a (by omega))) (fun i a b=>ihy i (by omega) b (h4 i a (by omega)))
 | iface t v v' h ih =>
  intro x hx
  cases hx with
  | iface _ y _ h=>exact .iface t y _ (ih h)
 | agg xs xs' hx hr ih =>
  intro x h
  cases h with
  | agg as _ h1 h2 h3=>exact .agg as _ (by omega) h2 (fun i a b=>ih i (by omega) b (h3 i a (by omega)))
 | tuple xs xs' hx hr ih =>
  intro x h
  cases h with
  | tuple as _ h1 h3=>exact .tuple as _ (by omega) (fun i a b=>ih i (by omega) b (h3 i a (by omega)))
inductive V.Fl:V→Prop
 | bool (b:Bool):Fl (.bool b)
 | int (k:IntKind) (n:Int):Fl (.int k n)
 | str (s:List UInt8):Fl (.str s)
 | nilp:Fl .nilp
 | nils:Fl .nils
 | nilf:Fl .nilf
 | nili:Fl .nili
 | nilm:Fl .nilm
 | agg (l:List V) (h:∀ x∈l,Fl x):Fl (.agg l)
 | tuple (l:List V) (h:∀ x∈l,Fl x):Fl (.tuple l)
 | iface (t:TypeId) (v:V) (h:Fl v):Fl (.iface t v)
theorem Rel.flat {X Y:Cx} {x:Value} {v:V} (h:Rel X x v) (hf:v.Fl):Rel Y x v:=by
 induction h with
 | bool b=>exact .bool b
 | int k n=>exact .int k n
 | str s l h=>exact .str s l h
 | nilp=>exact .nilp
 | nils=>exact .nils
 | nilf=>exact .nilf
 | nili=>exact .nili
 | nilm=>exact .nilm
 | agg xs l hx ho hr ih =>
  cases hf with
  | agg _ h=>exact .agg xs l hx ho (fun i h1 h2=>ih i h1 h2 (h _ (List.getElem_mem _)))
 | tuple xs l hx hr ih =>
  cases hf with
  | tuple _ h=>exact .tuple xs l hx (fun i h1 h2=>ih i h1 h2 (h _ (List.getElem_mem _)))
 | iface t x v h ih =>
  cases hf with
  | iface _ _ h=>exact .iface t x v (ih h)
 | _=>cases hf
def Rd (H:Heap):V→V→Prop:=Cv (fun _=>true) H (fun _ => .old) (fun v v'=>v.Im∧v'=v.recol Col.ent)
theorem Zlm {G:Nat→V} (hGok:GOk G) {f:FuncId} {args args':List V} {H:Heap} {K:V→Heap→Prop} (hen:Zha P f=true) (hlen:args'.length=args.length)
  (hrd:∀ i (h1:i<args.length) (h2:i<args'.length),Rd H args[i] args'[i])
  (h:Spec P G f args' Zl (fun v _=>v.Fl∧K v H)):CallA P G f args H K:=by
 refine ⟨hen,fun X cargs hI hG hA=>?_⟩
 let Xb:Cx:={ β := fun _ _=>none,S:=fun b _=>b<X.w.heap.size,base:=X.w.heap.size,w:=X.w }
 have hIb:Inv Xb Zl:=⟨fun o c g fz cs ho=>(by cases ho),fun o1 c1 g1 f1 l1 o2 c2 g2 f2 l2 b s1 s2 h1=>(by cases h1),fun b i hs=>⟨hs,fun o c g fz cs bs ho=>(by cases ho)⟩,fun o=>⟨0,fun _ _=>rfl⟩,Nat.le_refl _,fun b i hs hb=>absurd hs (Nat.not_lt.2 hb),.no fun o lo b ks vs ho=>(by cases ho)⟩
 have hconv:∀ x v,Rel X x v→v.Im→Rel Xb x (v.recol Col.ent):=fun x v hr him =>
  hr.conv (X:=X) (Y:=Xb) Col.ent (fun b i hs=>(hI.safe b i hs).1) (fun _ _ _ _ h=>h) ⟨fun _ c _ h=>⟨c,h,rfl⟩,fun _ _ _ _ h=>h⟩ (fun c b hb _=>by cases c<;>first | exact hb | trivial) (.inr him)
 have hGe:∀ g,RelG Xb g (G g):=fun g=>by
  refine ⟨?_,(hG g).sz.reb rfl rfl (hGok g).1⟩;have:=hconv _ _ (hG g).rel (hGok g).2;rwa [(hGok g).1] at this
 have hAe:RelA Xb cargs args':=by
  refine ⟨by rw [hA.len,hlen],fun i h1 h2=>?_⟩;refine Cv.rel (Y:=Xb) (F:=fun _=>true) (col:=fun _ => .old) hI (fun x v v' hb hr=>by obtain ⟨h1,rfl⟩:=hb;exact hconv _ _ hr h1) ?_ (fun _ _ _ h=>h) (hrd i (by omega) h2) (hA.rel i h1 (by omega));intro o c g fz cs b bs _ ho hβ;exact ⟨hI.lt ho hβ,fun i _=>hI.lt ho hβ⟩
 refine (h Xb cargs rfl hIb hGe hAe).mono ?_;rintro e w' ⟨c,v,H',Y,rfl,rfl,hg,hr,hfl,hk⟩
 have hno:∀ b,¬ LiveB Xb Zl b:=by rintro b ⟨o,c,g,fz,cs,bs,ho,_⟩;cases ho
 have hblk:∀ b,b<X.w.heap.size→Y.w.heap[b]? = X.w.heap[b]? := fun b hb=>hg.kp.block b hb (hno b)
 let Z:Cx:={ X with w:=Y.w }
 have hXZ:X.le Z:=by
  refine ⟨fun _ _ _ h=>h,fun _ _ h=>h,fun b i x hs hc=>?_,rfl,fun b c t hb=>⟨c,?_,rfl⟩,fun b es n _ hb=>?_⟩
  ·have:=hblk b (World.block_lt_of_cell? _ _ hc)
   show Y.w.cell? ⟨b,i,none⟩=some x
   rw [World.cell?_of_block (w:=X.w) (a:=⟨b,i,none⟩) this];exact hc
  ·have:b<X.w.heap.size:=by rw [Array.getElem?_eq_some_iff] at hb;exact hb.1
   show Y.w.heap[b]? = _
   rw [hblk b this];exact hb
  ·have:b<X.w.heap.size:=by rw [Array.getElem?_eq_some_iff] at hb;exact hb.1
   show Y.w.heap[b]? = _
   rw [hblk b this];exact hb
 have hkp:Keep (LiveB X H) X.w Z.w:=hg.kp.mono fun b _ hl=>absurd hl (hno b);refine ⟨c,v,H,Z,rfl,rfl,⟨⟨?_,hI.inj,?_,hI.fin,?_,hI.thaw_le hXZ fun _ _ hs=>hs,hI.mps_tr hXZ (fun _ _ _ _ _ h=>h) hkp fun _ _ hs => .inl hs⟩,hXZ,hkp,fun b i hs => .inl hs,fun b hb => .inr hb⟩,hr.flat hfl,hk⟩
 ·intro o c g fz cs ho
  obtain ⟨b,bs,h1,h2,c',t,h3,h4,h5⟩:=hI.obj o c g fz cs ho;exact ⟨b,bs,h1,h2,c',t,by show Y.w.heap[b]? = _;rw [hblk b (hI.lt ho h1)];exact h3,h4,h5.mono hXZ⟩
 ·intro b i hs
  exact ⟨Nat.lt_of_lt_of_le (hI.safe b i hs).1 hg.kp.size,(hI.safe b i hs).2⟩
 ·exact Nat.le_trans hI.bw hg.kp.size
def Fz (F:Nat→Bool) (H:Heap):V→V→Prop:=Cv F H id (fun v v'=>v'=v∨v' = .top∨v'=v.recol fun _ => .any)
def FzO (F:Nat→Bool) (H:Heap) (o:Nat):AObj→Prop
 | .dead=>True
 | .mp lo b ks vs=>H o = .mp lo b ks vs
 | .cells c g fz cs=>∃ c0 fz0 cs0,H o = .cells c0 g fz0 cs0∧(c=c0∨c = .any)∧fz0≤fz∧(F o=true→cs0.length≤fz)∧cs.length=cs0.length∧∀ i (h1:i<cs0.length) (h2:i<cs.length),Fz F H cs0[i] cs[i]
theorem Zrq {X:Cx} {H:Heap} (hI:Inv X H) (F:Nat→Bool) {H':Heap} (hH:∀ o,FzO F H o (H' o)) :
  ∃ Y,Y.w=X.w∧Goes X H Y H'∧∀ x v v',Fz F H v v'→Rel X x v→Rel Y x v':=by
 let Y:Cx:={ X with S:=fun b i=>X.S b i∨∃ o c g fz cs bs,F o=true∧H o = .cells c g fz cs∧X.β o g=some (b,bs)∧bs≤i∧i<bs+cs.length }
 have hle:X.le Y:=⟨fun _ _ _ h=>h,fun _ _ h => .inl h,fun _ _ _ _ h=>h,rfl,fun _ c _ h=>⟨c,h,rfl⟩,fun _ _ _ _ h=>h⟩
 have hrel:∀ x v v',Fz F H v v'→Rel X x v→Rel Y x v':=by
  intro x v v' hf hr;refine Cv.rel (Y:=Y) (col:=id) hI ?_ ?_ (fun _ _ _ h=>h) hf hr
  ·rintro x v v' (rfl | rfl | rfl) hr
   ·exact hr.mono hle
   ·exact .top _
   ·exact hr.conv (X:=X) (Y:=Y) (fun _ => .any) (fun _ _ h => .inl h) (fun _ _ _ _ h=>h) ⟨fun _ c _ h=>⟨c,h,rfl⟩,fun _ _ _ _ h=>h⟩ (fun _ _ _ _=>trivial) (.inl fun _ _ _ h=>h)
  ·intro o c g fz cs b bs hF ho hβ
   obtain ⟨b',bs',h1,h2,_⟩:=hI.obj o c g fz cs ho;rw [hβ] at h1;cases h1;exact ⟨h2,fun i hi => .inr ⟨o,c,g,fz,cs,bs,hF,ho,hβ,by omega,by omega⟩⟩
 have key:∀ o c g fz cs,H' o = .cells c g fz cs→∃ c0 fz0 cs0,H o = .cells c0 g fz0 cs0∧(c=c0∨c = .any)∧fz0≤fz∧(F o=true→cs0.length≤fz)∧cs.length=cs0.length∧∀ i (h1:i<cs0.length) (h2:i<cs.length),Fz F H cs0[i] cs[i]:=by
  intro o c g fz cs ho;have:=hH o;rw [ho] at this;exact this
 have hSn:∀ b i,Y.S b i→X.S b i∨X.w.heap.size≤b∨LiveB X H b:=by
  rintro b i (hs | ⟨o,c,g,fz,cs,bs,hF,ho,hβ,h1,h2⟩)
  ·exact .inl hs
  ·exact .inr (.inr ⟨o,c,g,fz,cs,bs,ho,hβ⟩)
 refine ⟨Y,rfl,⟨⟨?_,?_,?_,hI.fin,hI.bw,fun b i hs hb=>(by
  rcases hs with hs | ⟨o,c,g,fz,cs,bs,_,ho,hβ,_⟩
  ·exact hI.thaw b i hs hb
  ·exact .inl (hI.live_thaw ⟨o,c,g,fz,cs,bs,ho,hβ⟩)),hI.mps_tr hle (fun o lo b ks vs ho=>by have:=hH o;rw [ho] at this;exact this) (Keep.refl _ _) hSn⟩,hle,Keep.refl _ _,hSn,?_⟩,hrel⟩
 ·intro o c g fz cs ho
  obtain ⟨c0,fz0,cs0,h1,hcc,h2,h3,h4,h5⟩:=key _ _ _ _ _ ho;obtain ⟨b,bs,q1,q2,c',t,q3,q4,q5⟩:=hI.obj o c0 g fz0 cs0 h1
  have q2:c.ok X.base b:=by
   rcases hcc with rfl | rfl
   ·exact q2
   ·trivial
  refine ⟨b,bs,q1,q2,c',t,q3,by omega,?_⟩;rw [h4];refine ⟨by rw [q5.len,h4],q5.one,fun i a b=>?_⟩;exact hrel _ _ _ (h5 i (by omega) b) (q5.rel i a (by omega))
 ·intro o1 c1 g1 f1 l1 o2 c2 g2 f2 l2 b s1 s2 h1 h2
  obtain ⟨_,_,_,h1,_⟩:=key _ _ _ _ _ h1;obtain ⟨_,_,_,h2,_⟩:=key _ _ _ _ _ h2;exact hI.inj _ _ _ _ _ _ _ _ _ _ _ _ _ h1 h2
 ·rintro b i (hs | ⟨o,c,g,fz,cs,bs,hF,ho,hβ,h1,h2⟩)
  ·refine ⟨(hI.safe b i hs).1,fun o c g fz cs bs ho hβ => ?_⟩
   obtain ⟨c0,fz0,cs0,h1,_,h2,_⟩:=key _ _ _ _ _ ho;have:=(hI.safe b i hs).2 _ _ _ _ _ _ h1 hβ;omega
  ·refine ⟨hI.lt ho hβ,fun o' c' g' fz' cs' bs' ho' hβ'=>?_⟩
   obtain ⟨c0,fz0,cs0,q1,_,q2,q3,q4,_⟩:=key _ _ _ _ _ ho';have:=hI.inj _ _ _ _ _ _ _ _ _ _ _ _ _ q1 ho hβ' hβ;subst this;rw [ho] at q1;cases q1;rw [hβ] at hβ';cases hβ';have:=q3 hF;omega
 ·rintro b ⟨o,c,g,fz,cs,bs,ho,hβ⟩
  obtain ⟨c0,fz0,cs0,h1,_⟩:=key _ _ _ _ _ ho;exact .inr ⟨o,c0,g,fz0,cs0,bs,h1,hβ⟩
theorem Zcz (F:Nat→Bool) {s s':AS} (hτ : ∀ t,s'.τ t = .top∨Fz F s.H (s.τ t) (s'.τ t)) (hH:∀ o,FzO F s.H o (s'.H o)):Weak E s s':=by
 rintro a w ⟨X,hX⟩;obtain ⟨Y,hw,hg,hr⟩:=Zrq hX.go.inv F hH;refine ⟨Y,by rw [hw,hX.hw],hX.go.trans hg,hX.df.mono hg.le,hX.sz,fun t=>?_,fun g=>(hX.gl g).go hX.go.inv hg⟩
 rcases hτ t with h | h
 ·rw [h];exact .top _
 ·exact hr _ _ _ h (hX.tm t)
theorem Ze5 (F:Nat→Bool) {G:Nat→V} {f:FuncId} {args args':List V} {H H':Heap} {K:V→Heap→Prop} (hlen:args'.length=args.length)
  (hA:∀ i (h1:i<args.length) (h2:i<args'.length),Fz F H args[i] args'[i]) (hH:∀ o,FzO F H o (H' o)) (h:CallA P G f args' H' K):CallA P G f args H K:=by
 refine ⟨h.1,fun X cargs hI hG hR=>?_⟩;obtain ⟨Y,hw,hg,hr⟩:=Zrq hI F hH;have hA':RelA Y cargs args':=⟨by rw [hR.len,hlen],fun i h1 h2=>hr _ _ _ (hA i (by omega) h2) (hR.rel i h1 (by omega))⟩;have:=h.2 Y cargs hg.inv (fun g=>(hG g).go hI hg) hA';rw [hw] at this;refine this.mono ?_;rintro e w' ⟨c,v,H'',Z,rfl,rfl,q1,q2,q3⟩;exact ⟨c,v,H'',Z,rfl,rfl,hg.trans q1,q2,q3⟩
end
end Go.Hs
end
