/- A part. No condition. -/
import Derived.Test.YtjplgaebbfabnaaGreatDoorP26
import Derived.Test.YtjplgaebbfabnaaGreatDoorP17
set_option linter.all false
namespace Go.Hs
section
variable{P:Program}{W:World}
theorem Reads.field{α H:Type}{t:TypeId}{m:Nat}{f : α -> List V}(c:Reads P W t m f){enc:TypeId×Value->H}{b:Bool}{i j n:Nat}{cs:List Value}{xs:List (DataW H×List MemPlace)}
  (h:DataW.trod enc P W 0 (λ_=>true) b n t ((cs.drop i).take (P.cellsOf t))=xs[j]?) (d:j<xs.length):∃ a,RelC (Wj W) ((cs.drop i).take m) (f a):=by
 rw[c.1,List.getElem?_eq_getElem d]at h;exact c.2.2 enc b n _ _ h
def InK(k:IntKind)(n:Int):Prop:=k.min<=n/\n<=k.max
theorem Ft{X:Cx}{cs:Array Value}{l:List V}(h:RelC X (Value.agg cs).cells.toList l):Rel X (.agg cs) (.agg l):=by
 refine .agg cs l ?_ ?_ ?_;have:=h.len;exact this;intro x a;exact h.one x (by simpa[Value.cells]using a);intro i c b;have:=h.rel i (by simpa[Value.cells]using c) b;exact this
def gTop:Nat->V:=λ_=>.top
theorem Zfba:Y6 gTop:=λ_=>⟨rfl,.top⟩
theorem Spec.toCalls{f:FuncId}{args:List V}{a:Array Value}{K:V->Heap->Prop}(h:Spec P gTop f args Zj K)(i:RelA (Wj W) a args):
  Calls P f a W (λe w'=>∃ c v H' Y,e=.returned c/\Rel Y c v/\K v H'/\RowKit.Below W.heap.size W w'):=by
 refine(h (Wj W) a rfl (Z6x W) (λ_=>⟨.top _,trivial⟩) i).mono ?_;rintro e w' ⟨c,v,H',Y,rfl,rfl,g,b,d⟩;exact⟨c,v,H',Y,rfl,b,d,g.kp.below Ztc⟩
end
theorem Y8{α : Type}(g:Col->Col)(c:Col)(m:Nat){f f' : α -> V}(h:∀ x,(f x).recol g=f' x)(s:Sl α):(Za c m f s).recol g=Za (g c) m f' s:=by
 cases s with
 |nil=>rfl
 |mk b l=>
  simp only[Za,V.recol,Yq,List.map_map];simp_all
theorem Y1(g:Col->Col)(c:Col)(m:Nat)(k:IntKind)(s:Sl Int):(Za c m (V.int k) s).recol g=Za (g c) m (V.int k) s:=Y8 g c m (λ_=>rfl) s
theorem Xy(g:Col->Col)(c:Col)(m:Nat)(s:Sl (List UInt8)):(Za c m V.str s).recol g=Za (g c) m V.str s:=Y8 g c m (λ_=>rfl) s
theorem Yj(g:Col->Col)(k:IntKind)(n:Int):(V.int k n).recol g=.int k n:=rfl
theorem Dv(g:Col->Col)(b:Bool):(V.bool b).recol g=.bool b:=rfl
theorem Vf(g:Col->Col)(b:List UInt8):(V.str b).recol g=.str b:=rfl
theorem Xl(g:Col->Col)(l:List V):(V.agg l).recol g=.agg (l.map (V.recol g)):=by simp[V.recol,Yq]
theorem Zri(g:Col->Col)(l:List V):(V.tuple l).recol g=.tuple (l.map (V.recol g)):=by simp[V.recol,Yq]
theorem Zrba:Col.new.ent=.old:=rfl
theorem bk_old:Col.old.bk=.any:=rfl
attribute[go_sem]Y1 Xy Yj Dv Vf Xl Zri Zrba bk_old
end Go.Hs
