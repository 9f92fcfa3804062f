/- Part 48 of a proof; no condition. -/
import Derived.Test.YtegjlbpnpiigkaaGreatDoorPart26
set_option linter.unusedSimpArgs false
set_option linter.unusedVariables false
section
namespace Go.Hs
section
variable {P:Program}
inductive V.Nw:V→Prop
 | bool (b:Bool):Nw (.bool b)
 | int (k:IntKind) (n:Int):Nw (.int k n)
 | str (s:List UInt8):Nw (.str s)
 | nils:Nw .nils
 | slice (clip:Bool) (E:Nat) (l:List V) (h:∀ x∈flat l,Nw x):Nw (.slice .new clip E l)
 | agg (l:List V) (h:∀ x∈l,Nw x):Nw (.agg l)
 | tuple (l:List V) (h:∀ x∈l,Nw x):Nw (.tuple l)
theorem Nw.enc {α : Type} {m:Nat} {f : α → V} (hf:∀ x,∀ y∈(f x).cells,V.Nw y) (s:Sl α):V.Nw (Zb .new m f s):=by
 cases s with
 | nil=>exact .nils
 | mk b l =>
  refine .slice _ _ _ fun x hx=>?_;obtain ⟨v,hv,hx⟩:=List.mem_flatMap.1 hx;obtain ⟨a,_,rfl⟩:=List.mem_map.1 hv;exact hf a x hx
theorem Rel.nw {X Y:Cx} (hw:Y.w=X.w) (hS:∀ b i,X.S b i→X.base≤b→Y.S b i) (hb:Y.base≤X.base) {x:Value} {v:V} (h:Rel X x v) (hn:v.Nw):Rel Y x v:=by
 induction h with
 | bool b=>exact .bool b
 | int k n=>exact .int k n
 | str s l h=>exact .str s l h
 | nils=>exact .nils
 | slice c clip E l b off cap f hcap hclip hE hc hr ih =>
  cases hn with
  | slice _ _ _ h =>
   refine .slice .new clip E l b off cap f hcap hclip hE (fun i hi=>?_) (fun i hi=>ih i hi (h _ (List.getElem_mem _)));obtain ⟨h1,h2,h3,h4⟩:=hc i hi;have h2:X.base≤b:=h2;refine ⟨hS _ _ h1 h2,Nat.le_trans hb h2,?_,h4⟩;unfold Cx.cell at h3 ⊢;rw [hw];exact h3
 | slice0 c clip E a=>exact .slice0 c clip E a
 | agg xs l hx ho hr ih =>
  cases hn with
  | agg _ h=>exact .agg xs l hx ho (fun i h1 h2=>ih i h1 h2 (h _ (List.getElem_mem _)))
 | tuple xs l hx hr ih =>
  cases hn with
  | tuple _ h=>exact .tuple xs l hx (fun i h1 h2=>ih i h1 h2 (h _ (List.getElem_mem _)))
 | _=>cases hn
theorem Zze {G:Nat→V} (hGok:GOk G) {f:FuncId} {args:List V} {H:Heap} {K:V→Heap→Prop} (args':List V) (hen:Zha P f=true) (hrd:RdL H args args')
  (h:Spec P G f args' Zl (fun v _=>v.Nw∧K v H)):CallA P G f args H K:=by
 refine ⟨hen,fun X cargs hI hG hA=>?_⟩
 let Xb:Cx:={ β := fun _ _=>none,S:=fun b _=>b<X.w.heap.size,base:=X.w.heap.size,w:=X.w }
 have hIb:Inv Xb Zl:=⟨fun o c g fz cs ho=>(by cases ho),fun o1 c1 g1 f1 l1 o2 c2 g2 f2 l2 b s1 s2 h1=>(by cases h1),fun b i hs=>⟨hs,fun o c g fz cs bs ho=>(by cases ho)⟩,fun o=>⟨0,fun _ _=>rfl⟩,Nat.le_refl _,fun b i hs hb=>absurd hs (Nat.not_lt.2 hb),.no fun o lo b ks vs ho=>(by cases ho)⟩
 have hconv:∀ x v,Rel X x v→v.Im→Rel Xb x (v.recol Col.ent):=fun x v hr him =>
  hr.conv (X:=X) (Y:=Xb) Col.ent (fun b i hs=>(hI.safe b i hs).1) (fun _ _ _ _ h=>h) ⟨fun _ c _ h=>⟨c,h,rfl⟩,fun _ _ _ _ h=>h⟩ (fun c b hb _=>by cases c<;>first | exact hb | trivial) (.inr him)
 have hGe:∀ g,RelG Xb g (G g):=fun g=>by
  refine ⟨?_,(hG g).sz.reb rfl rfl (hGok g).1⟩;have:=hconv _ _ (hG g).rel (hGok g).2;rwa [(hGok g).1] at this
 have hAe:RelA Xb cargs args':=by
  refine ⟨by rw [hA.len,hrd.get.1],fun i h1 h2=>?_⟩;have hl:=hrd.get.1;refine Cv.rel (Y:=Xb) (F:=fun _=>true) (col:=fun _ => .old) hI (fun x v v' hb hr=>by obtain ⟨h1,rfl⟩:=hb;exact hconv _ _ hr h1) ?_ (fun _ _ _ h=>h) (hrd.get.2 i (by omega) h2) (hA.rel i h1 (by omega));intro o c g fz cs b bs _ ho hβ;exact ⟨hI.lt ho hβ,fun i _=>hI.lt ho hβ⟩
 refine (h Xb cargs rfl hIb hGe hAe).mono ?_;rintro e w' ⟨c,v,H',Y,rfl,rfl,hg,hr,hnw,hk⟩
 have hno:∀ b,¬ LiveB Xb Zl b:=by rintro b ⟨o,c,g,fz,cs,bs,ho,_⟩;cases ho
 have hblk:∀ b,b<X.w.heap.size→Y.w.heap[b]? = X.w.heap[b]? := fun b hb=>hg.kp.block b hb (hno b);have hbase:Y.base=X.w.heap.size:=hg.le.base
 let Z:Cx:={ X with w:=Y.w,S:=fun b i=>X.S b i∨(Y.S b i∧X.w.heap.size≤b) }
 have hXZ:X.le Z:=by
  refine ⟨fun _ _ _ h=>h,fun _ _ h => .inl h,fun b i x hs hc=>?_,rfl,fun b c t hb=>⟨c,?_,rfl⟩,fun b es n _ hb=>?_⟩
  ·have:=hblk b (World.block_lt_of_cell? _ _ hc)
   show Y.w.cell? ⟨b,i,none⟩=some x
   rw [World.cell?_of_block (w:=X.w) (a:=⟨b,i,none⟩) this];exact hc
  ·have:b<X.w.heap.size:=by rw [Array.getElem?_eq_some_iff] at hb;exact hb.1
   show Y.w.heap[b]? = _
   rw [hblk b this];exact hb
  ·have:b<X.w.heap.size:=by rw [Array.getElem?_eq_some_iff] at hb;exact hb.1
   show Y.w.heap[b]? = _
   rw [hblk b this];exact hb
 have hkp:Keep (LiveB X H) X.w Z.w:=hg.kp.mono fun b _ hl=>absurd hl (hno b);have hSn:∀ b i,Z.S b i→X.S b i∨X.w.heap.size≤b∨LiveB X H b:=fun b i hs=>hs.imp id fun q => .inl q.2;refine ⟨c,v,H,Z,rfl,rfl,⟨⟨?_,hI.inj,?_,hI.fin,?_,fun b i hs hb=>?_,hI.mps_tr hXZ (fun _ _ _ _ _ h=>h) hkp hSn⟩,hXZ,hkp,hSn,fun b hb => .inr hb⟩,?_,hk⟩
 ·intro o c g fz cs ho
  obtain ⟨b,bs,h1,h2,c',t,h3,h4,h5⟩:=hI.obj o c g fz cs ho;exact ⟨b,bs,h1,h2,c',t,by show Y.w.heap[b]? = _;rw [hblk b (hI.lt ho h1)];exact h3,h4,h5.mono hXZ⟩
 ·rintro b i (hs | ⟨hs,hlo⟩)
  ·exact ⟨Nat.lt_of_lt_of_le (hI.safe b i hs).1 hg.kp.size,(hI.safe b i hs).2⟩
  ·refine ⟨(hg.inv.safe b i hs).1,fun o c g fz cs bs ho hβ => ?_⟩
   have:=hI.lt ho hβ;omega
 ·exact Nat.le_trans hI.bw hg.kp.size
 ·rcases hs with hs | ⟨hs,hlo⟩
  ·rcases hI.thaw b i hs hb with ⟨c1,t1,h2⟩ | ⟨rfl,es,n,h2⟩
   ·obtain ⟨c2,h3,_⟩:=hXZ.blk b c1 t1 h2
    exact .inl ⟨c2,t1,h3⟩
   ·exact .inr ⟨rfl,es,n,hXZ.map b es n hs h2⟩
  ·exact hg.inv.thaw b i hs (by rw [hbase];exact hlo)
 ·exact hr.nw (X:=Y) (Y:=Z) rfl (fun b i h1 h2 => .inr ⟨h1,by rw [hbase] at h2;exact h2⟩) (by rw [hbase];exact hI.bw) hnw
theorem Rd.agg {H:Heap} {xs ys:List V} (h:RdL H xs ys):Rd H (.agg xs) (.agg ys):=Cv.agg xs ys h.get.1.symm h.get.2
end
end Go.Hs
end
