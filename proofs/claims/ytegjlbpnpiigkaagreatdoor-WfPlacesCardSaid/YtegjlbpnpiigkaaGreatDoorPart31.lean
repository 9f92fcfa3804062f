/- Part 31 of a proof; no condition. -/
import Derived.Test.YtegjlbpnpiigkaaGreatDoorPart30
import Derived.Test.YtegjlbpnpiigkaaGreatDoorPart19
set_option linter.unusedSimpArgs false
set_option linter.unusedVariables false
section
namespace Go.Hs
section
variable {P:Program} {W:World}
theorem Reads.field {α H:Type} {t:TypeId} {m:Nat} {f : α → List V} (hr:Reads P W t m f) {enc:TypeId × Value→H} {held:Bool} {i j n:Nat} {cs:List Value} {xs:List (DataW H × List MemPlace)}
  (h:DataW.trod enc P W 0 (fun _=>true) held n t ((cs.drop i).take (P.cellsOf t))=xs[j]?) (hj:j<xs.length):∃ a,RelC (Z7b W) ((cs.drop i).take m) (f a):=by
 rw [hr.1,List.getElem?_eq_getElem hj] at h;exact hr.2.2 enc held n _ _ h
def InK (k:IntKind) (n:Int):Prop:=k.min≤n∧n≤k.max
theorem Zsx {X:Cx} {cs:Array Value} {l:List V} (h:RelC X (Value.agg cs).cells.toList l):Rel X (.agg cs) (.agg l):=by
 refine .agg cs l ?_ ?_ ?_
 ·have:=h.len
  rw [show (Value.agg cs).cells.toList=cs.toList from rfl,Array.length_toList] at this;exact this
 ·intro x hx
  exact h.one x (by simpa [Value.cells] using hx)
 ·intro i h1 h2
  have:=h.rel i (by simpa [Value.cells] using h1) h2;rw [← Array.getElem_toList];exact this
def gTop:Nat→V:=fun _ => .top
theorem gTop_ok:GOk gTop:=fun _=>⟨rfl,.top⟩
theorem Spec.toCalls {f:FuncId} {args:List V} {cargs:Array Value} {K:V→Heap→Prop} (h:Spec P gTop f args Zl K) (hR:RelA (Z7b W) cargs args) :
  Calls P f cargs W (fun e w'=>∃ c v H' Y,e = .returned c∧Rel Y c v∧K v H'∧RowKit.Below W.heap.size W w'):=by
 refine (h (Z7b W) cargs rfl (Zv3 W) (fun _=>⟨.top _,trivial⟩) hR).mono ?_;rintro e w' ⟨c,v,H',Y,rfl,rfl,hg,hr,hk⟩;exact ⟨c,v,H',Y,rfl,hr,hk,hg.kp.below (by rintro b ⟨o,c,g,fz,cs,bs,ho,_⟩;simp [Zl] at ho)⟩
end
theorem Z7c {α : Type} (g:Col→Col) (c:Col) (m:Nat) {f f' : α → V} (h:∀ x,(f x).recol g=f' x) (s:Sl α):(Zb c m f s).recol g=Zb (g c) m f' s:=by
 cases s with
 | nil=>rfl
 | mk b l =>
  simp only [Zb,V.recol,Z3,List.map_map]
  congr 1
  exact List.map_congr_left fun x _=>h x
@[go_sem] theorem recol_encI (g:Col→Col) (c:Col) (m:Nat) (k:IntKind) (s:Sl Int):(Zb c m (V.int k) s).recol g=Zb (g c) m (V.int k) s:=Z7c g c m (fun _=>rfl) s
@[go_sem] theorem Zid (g:Col→Col) (c:Col) (m:Nat) (s:Sl (List UInt8)):(Zb c m V.str s).recol g=Zb (g c) m V.str s:=Z7c g c m (fun _=>rfl) s
@[go_sem] theorem Zjc (g:Col→Col) (k:IntKind) (n:Int):(V.int k n).recol g = .int k n:=rfl
@[go_sem] theorem recol_bool (g:Col→Col) (b:Bool):(V.bool b).recol g = .bool b:=rfl
@[go_sem] theorem Zwc (g:Col→Col) (b:List UInt8):(V.str b).recol g = .str b:=rfl
@[go_sem] theorem Zkc (g:Col→Col) (l:List V):(V.agg l).recol g = .agg (l.map (V.recol g)):=by simp [V.recol,Z3]
@[go_sem] theorem recol_tuple (g:Col→Col) (l:List V):(V.tuple l).recol g = .tuple (l.map (V.recol g)):=by simp [V.recol,Z3]
@[go_sem] theorem ent_new:Col.new.ent = .old:=rfl
@[go_sem] theorem bk_old:Col.old.bk = .any:=rfl
end Go.Hs
end
