/- Part 32 of the proof of a statement of seat YtnjcehngoajnnaaGreatDoor: HsArgs. -/
import Derived.Test.YtnjcehngoajnnaaGreatDoorPart31
set_option linter.unusedSimpArgs false
set_option linter.unusedVariables false
section
namespace Go.Hs
variable {P:Program} {W:World}
theorem Reads.field {α H:Type} {t:TypeId} {m:Nat} {f : α → List V} (hr:Reads P W t m f) {enc:TypeId × Value→H} {held:Bool} {i j n:Nat} {cs:List Value} {xs:List (DataW H × List MemPlace)}
  (h:DataW.trod enc P W 0 (fun _=>true) held n t ((cs.drop i).take (P.cellsOf t))=xs[j]?) (hj:j<xs.length):∃ a,RelC (Zfb W) ((cs.drop i).take m) (f a):=by
 rw [hr.1,List.getElem?_eq_getElem hj] at h;exact hr.2.2 enc held n _ _ h
def InK (k:IntKind) (n:Int):Prop:=k.min≤n∧n≤k.max
theorem Z4w {X:Cx} {cs:Array Value} {l:List V} (h:RelC X (Value.agg cs).cells.toList l):Rel X (.agg cs) (.agg l):=by
 refine .agg cs l ?_ ?_ ?_
 ·have:=h.len
  rw [show (Value.agg cs).cells.toList=cs.toList from rfl,Array.length_toList] at this;exact this
 ·intro x hx
  exact h.one x (by simpa [Value.cells] using hx)
 ·intro i h1 h2
  have:=h.rel i (by simpa [Value.cells] using h1) h2;rw [← Array.getElem_toList];exact this
def gTop:Nat→V:=fun _ => .top
theorem gTop_ok:GOk gTop:=fun _=>⟨rfl,.top⟩
theorem Spec.toCalls {f:FuncId} {args:List V} {cargs:Array Value} {K:V→Heap→Prop} (h:Spec P gTop f args Zk K) (hR:RelA (Zfb W) cargs args) :
  Calls P f cargs W (fun e w'=>∃ c v H' Y,e = .returned c∧Rel Y c v∧K v H'∧RowKit.Below W.heap.size W w'):=by
 refine (h (Zfb W) cargs rfl (Za3 W) (fun _=>⟨.top _,trivial⟩) hR).mono ?_;rintro e w' ⟨c,v,H',Y,rfl,rfl,hg,hr,hk⟩;exact ⟨c,v,H',Y,rfl,hr,hk,hg.kp.below (by rintro b ⟨o,c,g,fz,cs,bs,ho,_⟩;simp [Zk] at ho)⟩
end Go.Hs
end
