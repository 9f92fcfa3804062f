/- A part. No condition. -/
import Derived.Test.YtegjlbpnpiigkaaGreatDoorP29
import Derived.Test.YtegjlbpnpiigkaaGreatDoorP17
set_option linter.all false
namespace Go.Hs
section
variable{P:Program}{W:World}
theorem Reads.field{α H:Type}{t:TypeId}{m:Nat}{f : α -> List V}(hr:Reads P W t m f){enc:TypeId×Value->H}{held:Bool}{i j n:Nat}{cs:List Value}{xs:List (DataW H×List MemPlace)}
  (h:DataW.trod enc P W 0 (λ_=>true) held n t ((cs.drop i).take (P.cellsOf t))=xs[j]?) (hj:j<xs.length):∃ a,RelC (Zue W) ((cs.drop i).take m) (f a):=by
 rw[hr.1,List.getElem?_eq_getElem hj]at h;exact hr.2.2 enc held n _ _ h
def InK(k:IntKind)(n:Int):Prop:=k.min<=n/\n<=k.max
def gTop:Nat->V:=λ_=>.top
theorem gTop_ok:GOk gTop:=λ_=>⟨rfl,.top⟩
theorem Spec.toCalls{f:FuncId}{args:List V}{cargs:Array Value}{K:V->Heap->Prop}(h:Spec P gTop f args Zk K)(hR:RelA (Zue W) cargs args):
  Calls P f cargs W (λe w'=>∃ c v H' Y,e=.returned c/\Rel Y c v/\K v H'/\RowKit.Below W.heap.size W w'):=by
 refine(h (Zue W) cargs rfl (Zlia W) (λ_=>⟨.top _,trivial⟩) hR).mono ?_;rintro e w' ⟨c,v,H',Y,rfl,rfl,hg,hr,hk⟩;exact⟨c,v,H',Y,rfl,hr,hk,hg.kp.below Zkp⟩
end
theorem Zdd{α : Type}(g:Col->Col)(c:Col)(m:Nat){f f' : α -> V}(h:∀ x,(f x).recol g=f' x)(s:Sl α):(Zb c m f s).recol g=Zb (g c) m f' s:=by
 cases s with
 |nil=>rfl
 |mk b l=>
  simp only[Zb,V.recol,Z8,List.map_map]
  congr 1
  exact List.map_congr_left λx _=>h x
theorem Zsaa(g:Col->Col)(c:Col)(m:Nat)(k:IntKind)(s:Sl Int):(Zb c m (V.int k) s).recol g=Zb (g c) m (V.int k) s:=Zdd g c m (λ_=>rfl) s
theorem Zgb(g:Col->Col)(c:Col)(m:Nat)(s:Sl (List UInt8)):(Zb c m V.str s).recol g=Zb (g c) m V.str s:=Zdd g c m (λ_=>rfl) s
theorem Zcc(g:Col->Col)(k:IntKind)(n:Int):(V.int k n).recol g=.int k n:=rfl
theorem Ztaa(g:Col->Col)(b:Bool):(V.bool b).recol g=.bool b:=rfl
theorem Zoc(g:Col->Col)(b:List UInt8):(V.str b).recol g=.str b:=rfl
theorem Zqaa(g:Col->Col):V.nils.recol g=.nils:=rfl
theorem Zdc(g:Col->Col)(l:List V):(V.agg l).recol g=.agg (l.map (V.recol g)):=by simp[V.recol,Z8]
theorem Zy1(g:Col->Col)(l:List V):(V.tuple l).recol g=.tuple (l.map (V.recol g)):=by simp[V.recol,Z8]
theorem ent_new:Col.new.ent=.old:=rfl
theorem bk_old:Col.old.bk=.any:=rfl
attribute[go_sem]Zsaa Zgb Zcc Ztaa Zoc Zqaa Zdc Zy1 ent_new bk_old
end Go.Hs
