/- A part. No condition. -/
import Derived.Test.YtoahejkahaimnaaGreatDoorP25
set_option linter.all false
namespace Go.Hs
section
variable{P:Program}{E:Ent}
def AS.ent(s:AS):AS:=⟨λt=>(s.τ t).recol Col.ent,λo=>(s.H o).recol Col.ent⟩
def AS.bk(s:AS):AS:=⟨λt=>(s.τ t).recol Col.bk,λo=>(s.H o).recol Col.bk⟩
inductive V.Old:V->Prop
 |bool (b:Bool):Old (.bool b)
 |int (k:IntKind) (n:Int):Old (.int k n)
 |str (s:List UInt8):Old (.str s)
 |nilp:Old .nilp
 |view (v:V) (h:∀ x∈v.cells,Old x):Old (.view .old v)
 |ptr (o g off:Nat):Old (.ptr o g off)
 |nils:Old .nils
 |slice (clip:Bool) (E:Nat) (l:List V) (h:∀ x∈flat l,Old x):Old (.slice .old clip E l)
 |agg (l:List V) (h:∀ x∈l,Old x):Old (.agg l)
 |tuple (l:List V) (h:∀ x∈l,Old x):Old (.tuple l)
 |iface (t:TypeId) (v:V) (h:Old v):Old (.iface t v)
 |top:Old .top
theorem Old.enc{α : Type}{m:Nat}{f : α -> V}(d:∀ x,∀ y∈(f x).cells,V.Old y)(s:Sl α):V.Old (Za .old m f s):=by
 cases s with
 |nil=>exact .nils
 |mk b l=>
  refine .slice _ _ _ λx a=>?_;obtain⟨v,c,a⟩:=Di.1 a
  grind
theorem Rel.old{X Y:Cx}(w:∀ b i,X.S b i->b<X.base->Y.S b i)(y : ∀ o g p,X.β o g=some p->Y.β o g=some p)(z:Y.base=X.base)(u:∀ b i x,b<X.base->X.cell b i=some x->Y.cell b i=some x){x:Value}{v:V}(h:Rel X x v)(d:v.Old):Rel Y x v:=by
 induction h with
 |top x=>exact .top x
 |bool b=>exact .bool b
 |int k n=>exact .int k n
 |str s l h=>exact .str s l h
 |nilp=>exact .nilp
 |view c v b off f hcc hr ih=>
  cases d with
  |view _ h=>
   refine .view _ v b off f (λi j=>?_) (λi j=>ih i j (h _ (List.getElem_mem j)));obtain⟨m,e,r,q⟩:=hcc i j;exact⟨w _ _ m e,by grind,u _ _ _ e r,q⟩
 |ptr o g off b bs h=>exact .ptr o g off b bs (y _ _ _ h)
 |nils=>exact .nils
 |slice0 c clip E a=>exact .slice0 c clip E a
 |slice c clip E l b off cap f hcap hclip hE hcc hr ih=>
  cases d with
  |slice _ _ _ h=>
   refine .slice _ clip E l b off cap f hcap hclip hE (λi j=>?_) (λi j=>ih i j (h _ (List.getElem_mem j)));obtain⟨m,e,r,q⟩:=hcc i j;exact⟨w _ _ m e,by rw[z];exact e,u _ _ _ e r,q⟩
 |msl=>cases d
 |func=>cases d
 |nilf=>cases d
 |iface t x v h ih=>
  cases d with
  |iface _ _ d=>exact .iface t x v (ih d)
 |nili=>cases d
 |agg xs l hx ho' hr ih=>
  cases d with
  |agg _ h=>exact .agg xs l hx ho' λi m e=>ih i m e (h _ (List.getElem_mem e))
 |tuple xs l hx hr ih=>
  cases d with
  |tuple _ h=>exact .tuple xs l hx λi m e=>ih i m e (h _ (List.getElem_mem e))
 |nilm=>cases d
 |mapv=>cases d
 |mref=>cases d
theorem SzK.old{X Y:Cx}{g:Nat}{v:V}(h:SzK X g v)(b:v.Old)(i:Y.base=X.base)(a:∀ k,k<X.base->Y.w.heap[k]?=X.w.heap[k]?):SzK Y g v:=by
 unfold SzK at h⊢
 split
 obtain⟨e,l,t,f,d,c⟩:=h;cases b;refine⟨by grind,l,t,f,?_,c⟩;rw[a g e];exact d;simp
end
end Go.Hs
