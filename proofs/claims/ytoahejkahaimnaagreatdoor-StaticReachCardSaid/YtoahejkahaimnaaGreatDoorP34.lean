/- A part. No condition. -/
import Derived.Test.YtoahejkahaimnaaGreatDoorP31
import Derived.Test.YtoahejkahaimnaaGreatDoorP17
set_option linter.all false
namespace Go.Hs
section
variable{P:Program}{W:World}
theorem Reads.field{α H:Type}{t:TypeId}{m:Nat}{f : α -> List V}(hr:Reads P W t m f){enc:TypeId×Value->H}{held:Bool}{i j n:Nat}{cs:List Value}{xs:List (DataW H×List MemPlace)}
  (h:DataW.trod enc P W 0 (λ_=>true) held n t ((cs.drop i).take (P.cellsOf t))=xs[j]?) (hj:j<xs.length):∃ a,RelC (Z9b W) ((cs.drop i).take m) (f a):=by
 rw[hr.1,List.getElem?_eq_getElem hj]at h;exact hr.2.2 enc held n _ _ h
def InK(k:IntKind)(n:Int):Prop:=k.min<=n/\n<=k.max
theorem Z14{X:Cx}{cs:Array Value}{l:List V}(h:RelC X (Value.agg cs).cells.toList l):Rel X (.agg cs) (.agg l):=by
 refine .agg cs l ?_ ?_ ?_;have:=h.len;rw[show(Value.agg cs).cells.toList=cs.toList from rfl,Array.length_toList]at this;exact this;intro x hx;exact h.one x (by simpa[Value.cells]using hx);intro i h1 h2;have:=h.rel i (by simpa[Value.cells]using h1) h2;rw[<- Array.getElem_toList];exact this
def gTop:Nat->V:=λ_=>.top
theorem gTop_ok:GOk gTop:=λ_=>⟨rfl,.top⟩
theorem Spec.toCalls{f:FuncId}{args:List V}{cargs:Array Value}{K:V->Heap->Prop}(h:Spec P gTop f args Zk K)(hR:RelA (Z9b W) cargs args):
  Calls P f cargs W (λe w'=>∃ c v H' Y,e=.returned c/\Rel Y c v/\K v H'/\RowKit.Below W.heap.size W w'):=by
 refine(h (Z9b W) cargs rfl (Zoga W) (λ_=>⟨.top _,trivial⟩) hR).mono ?_;rintro e w' ⟨c,v,H',Y,rfl,rfl,hg,hr,hk⟩;exact⟨c,v,H',Y,rfl,hr,hk,hg.kp.below Z7n⟩
end
theorem Zdb{α : Type}(g:Col->Col)(c:Col)(m:Nat){f f' : α -> V}(h:∀ x,(f x).recol g=f' x)(s:Sl α):(Za c m f s).recol g=Za (g c) m f' s:=by
 cases s with
 |nil=>rfl
 |mk b l=>
  simp only[Za,V.recol,Z7,List.map_map]
  congr 1
  exact List.map_congr_left λx _=>h x
theorem Z7a(g:Col->Col)(c:Col)(m:Nat)(k:IntKind)(s:Sl Int):(Za c m (V.int k) s).recol g=Za (g c) m (V.int k) s:=Zdb g c m (λ_=>rfl) s
theorem Zyd(g:Col->Col)(c:Col)(m:Nat)(s:Sl (List UInt8)):(Za c m V.str s).recol g=Za (g c) m V.str s:=Zdb g c m (λ_=>rfl) s
theorem Zwa(g:Col->Col)(k:IntKind)(n:Int):(V.int k n).recol g=.int k n:=rfl
theorem Zwq(g:Col->Col)(b:Bool):(V.bool b).recol g=.bool b:=rfl
theorem Zuc(g:Col->Col)(b:List UInt8):(V.str b).recol g=.str b:=rfl
theorem Z4a(g:Col->Col)(l:List V):(V.agg l).recol g=.agg (l.map (V.recol g)):=by simp[V.recol,Z7]
theorem Z1z(g:Col->Col)(l:List V):(V.tuple l).recol g=.tuple (l.map (V.recol g)):=by simp[V.recol,Z7]
theorem ent_new:Col.new.ent=.old:=rfl
attribute[go_sem]Z7a Zyd Zwa Zwq Zuc Z4a Z1z ent_new
end Go.Hs
