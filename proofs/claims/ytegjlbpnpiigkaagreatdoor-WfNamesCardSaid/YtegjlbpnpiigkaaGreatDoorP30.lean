/- A part. No condition. -/
import Derived.Test.YtegjlbpnpiigkaaGreatDoorP29
import Derived.Test.YtegjlbpnpiigkaaGreatDoorP17
set_option linter.all false
namespace Go.Hs
section
variable{P:Program}{W:World}
theorem Reads.field{α H:Type}{t:TypeId}{m:Nat}{f : α -> List V}(hr:Reads P W t m f){enc:TypeId×Value->H}{held:Bool}{i j n:Nat}{cs:List Value}{xs:List (DataW H×List MemPlace)}
  (h:DataW.trod enc P W 0 (λ_=>true) held n t ((cs.drop i).take (P.cellsOf t))=xs[j]?) (hj:j<xs.length):∃ a,RelC (Zeb W) ((cs.drop i).take m) (f a):=by
 rw[hr.1,List.getElem?_eq_getElem hj]at h;exact hr.2.2 enc held n _ _ h
def InK(k:IntKind)(n:Int):Prop:=k.min<=n/\n<=k.max
theorem Zpy{X:Cx}{cs:Array Value}{l:List V}(h:RelC X (Value.agg cs).cells.toList l):Rel X (.agg cs) (.agg l):=by
 refine .agg cs l ?_ ?_ ?_;have:=h.len;rw[show(Value.agg cs).cells.toList=cs.toList from rfl,Array.length_toList]at this;exact this;intro x hx;exact h.one x (by simpa[Value.cells]using hx);intro i h1 h2;have:=h.rel i (by simpa[Value.cells]using h1) h2;rw[<- Array.getElem_toList];exact this
def gTop:Nat->V:=λ_=>.top
theorem gTop_ok:GOk gTop:=λ_=>⟨rfl,.top⟩
theorem Spec.toCalls{f:FuncId}{args:List V}{cargs:Array Value}{K:V->Heap->Prop}(h:Spec P gTop f args Zk K)(hR:RelA (Zeb W) cargs args):
  Calls P f cargs W (λe w'=>∃ c v H' Y,e=.returned c/\Rel Y c v/\K v H'/\RowKit.Below W.heap.size W w'):=by
 refine(h (Zeb W) cargs rfl (Zi7 W) (λ_=>⟨.top _,trivial⟩) hR).mono ?_;rintro e w' ⟨c,v,H',Y,rfl,rfl,hg,hr,hk⟩;exact⟨c,v,H',Y,rfl,hr,hk,hg.kp.below Zgl⟩
end
theorem Zdc{α : Type}(g:Col->Col)(c:Col)(m:Nat){f f' : α -> V}(h:∀ x,(f x).recol g=f' x)(s:Sl α):(Za c m f s).recol g=Za (g c) m f' s:=by
 cases s with
 |nil=>rfl
 |mk b l=>
  simp only[Za,V.recol,Z2,List.map_map]
  congr 1
  exact List.map_congr_left λx _=>h x
theorem Za1(g:Col->Col)(c:Col)(m:Nat)(k:IntKind)(s:Sl Int):(Za c m (V.int k) s).recol g=Za (g c) m (V.int k) s:=Zdc g c m (λ_=>rfl) s
theorem Z1a(g:Col->Col)(c:Col)(m:Nat)(s:Sl (List UInt8)):(Za c m V.str s).recol g=Za (g c) m V.str s:=Zdc g c m (λ_=>rfl) s
theorem Zqb(g:Col->Col)(k:IntKind)(n:Int):(V.int k n).recol g=.int k n:=rfl
theorem Zb1(g:Col->Col)(b:Bool):(V.bool b).recol g=.bool b:=rfl
theorem Z0b(g:Col->Col)(b:List UInt8):(V.str b).recol g=.str b:=rfl
theorem Zrb(g:Col->Col)(l:List V):(V.agg l).recol g=.agg (l.map (V.recol g)):=by simp[V.recol,Z2]
theorem Zwu(g:Col->Col)(l:List V):(V.tuple l).recol g=.tuple (l.map (V.recol g)):=by simp[V.recol,Z2]
theorem ent_new:Col.new.ent=.old:=rfl
attribute[go_sem]Za1 Z1a Zqb Zb1 Z0b Zrb Zwu ent_new
end Go.Hs
