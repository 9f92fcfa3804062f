/- A part. No condition. -/
import Derived.Test.YtoahejkahaimnaaGreatDoorP25
set_option linter.all false
namespace Go.Hs
section
variable{P:Program}{E:Ent}
def AS.ent(s:AS):AS:=⟨λt=>(s.τ t).recol Col.ent,λo=>(s.H o).recol Col.ent⟩
def AS.bk(s:AS):AS:=⟨λt=>(s.τ t).recol Col.bk,λo=>(s.H o).recol Col.bk⟩
inductive V.Old:V->Prop
 |bool (b:Bool):Old (.bool b)
 |int (k:IntKind) (n:Int):Old (.int k n)
 |str (s:List UInt8):Old (.str s)
 |nilp:Old .nilp
 |view (v:V) (h:∀ x∈v.cells,Old x):Old (.view .old v)
 |ptr (o g off:Nat):Old (.ptr o g off)
 |nils:Old .nils
 |slice (clip:Bool) (E:Nat) (l:List V) (h:∀ x∈flat l,Old x):Old (.slice .old clip E l)
 |agg (l:List V) (h:∀ x∈l,Old x):Old (.agg l)
 |tuple (l:List V) (h:∀ x∈l,Old x):Old (.tuple l)
 |iface (t:TypeId) (v:V) (h:Old v):Old (.iface t v)
 |top:Old .top
theorem Old.enc{α : Type}{m:Nat}{f : α -> V}(hf:∀ x,∀ y∈(f x).cells,V.Old y)(s:Sl α):V.Old (Za .old m f s):=by
 cases s with
 |nil=>exact .nils
 |mk b l=>
  refine .slice _ _ _ λx hx=>?_;obtain⟨v,hv,hx⟩:=Z6s.1 hx;obtain⟨a,_,rfl⟩:=List.mem_map.1 hv;exact hf a x hx
theorem Rel.old{X Y:Cx}(hS:∀ b i,X.S b i->b<X.base->Y.S b i)(hβ : ∀ o g p,X.β o g=some p->Y.β o g=some p)(hb:Y.base=X.base)(hc:∀ b i x,b<X.base->X.cell b i=some x->Y.cell b i=some x){x:Value}{v:V}(h:Rel X x v)(ho:v.Old):Rel Y x v:=by
 induction h with
 |top x=>exact .top x
 |bool b=>exact .bool b
 |int k n=>exact .int k n
 |str s l h=>exact .str s l h
 |nilp=>exact .nilp
 |view c v b off f hcc hr ih=>
  cases ho with
  |view _ h=>
   refine .view _ v b off f (λi hi=>?_) (λi hi=>ih i hi (h _ (List.getElem_mem hi)));obtain⟨h1,h2,h3,h4⟩:=hcc i hi;have h2:b<X.base:=h2;exact⟨hS _ _ h1 h2,by rw[hb];exact h2,hc _ _ _ h2 h3,h4⟩
 |ptr o g off b bs h=>exact .ptr o g off b bs (hβ _ _ _ h)
 |nils=>exact .nils
 |slice0 c clip E a=>exact .slice0 c clip E a
 |slice c clip E l b off cap f hcap hclip hE hcc hr ih=>
  cases ho with
  |slice _ _ _ h=>
   refine .slice _ clip E l b off cap f hcap hclip hE (λi hi=>?_) (λi hi=>ih i hi (h _ (List.getElem_mem hi)));obtain⟨h1,h2,h3,h4⟩:=hcc i hi;have h2:b<X.base:=h2;exact⟨hS _ _ h1 h2,by rw[hb];exact h2,hc _ _ _ h2 h3,h4⟩
 |msl=>cases ho
 |func=>cases ho
 |nilf=>cases ho
 |iface t x v h ih=>
  cases ho with
  |iface _ _ ho=>exact .iface t x v (ih ho)
 |nili=>cases ho
 |agg xs l hx ho' hr ih=>
  cases ho with
  |agg _ h=>exact .agg xs l hx ho' λi h1 h2=>ih i h1 h2 (h _ (List.getElem_mem h2))
 |tuple xs l hx hr ih=>
  cases ho with
  |tuple _ h=>exact .tuple xs l hx λi h1 h2=>ih i h1 h2 (h _ (List.getElem_mem h2))
 |nilm=>cases ho
 |mapv=>cases ho
 |mref=>cases ho
theorem SzK.old{X Y:Cx}{g:Nat}{v:V}(h:SzK X g v)(ho:v.Old)(hb:Y.base=X.base)(hblk:∀ k,k<X.base->Y.w.heap[k]?=X.w.heap[k]?):SzK Y g v:=by
 unfold SzK at h⊢
 split
 rename_i c cs;simp only at h;obtain⟨h0,l,t,fr,h1,h2⟩:=h;cases ho;refine⟨by rw[hb];exact h0,l,t,fr,?_,h2⟩;rw[hblk g h0];exact h1
 trivial
end
end Go.Hs
