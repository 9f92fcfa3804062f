/- A part. No condition. -/
import Derived.Test.YtjplgaebbfabnaaGreatDoorP27
set_option linter.all false
namespace Go.Hs
section
variable{P:Program}
theorem Goes.below{X:Cx}{H:Heap}(h:Inv X H){w':World}(a:RowKit.Below X.w.heap.size X.w w'):Goes X H { X with w:=w' } H:=by
 have l:∀ b i x,X.cell b i=some x->w'.cell? ⟨b,i,none⟩=some x:=λb i x d=>
  (a.cell (show(⟨b,i,none⟩:Addr).block<X.w.heap.size from World.block_lt_of_cell? _ _ d)).trans d
 have j:∀ (b:Nat) (c:Array Value) t,X.w.heap[b]?=some (Obj.cells c t (0,0))->w'.heap[b]?=some (Obj.cells c t (0,0)):=λb c t d=>by
  rw[a.block b (by grind),d]
 have e:X.le { X with w:=w' }:=⟨λ_ _ _ h=>h,λ_ _ h=>h,λb i x _ d=>l b i x d,rfl,λb c t d=>⟨c,j b c t d,rfl⟩,λb es n _ d=>by
  rw[a.block b (by grind),d]⟩
 have m:Keep (Xx X H) X.w w':=⟨a.os,a.tape,a.output,a.size,λk s _=>a.block k s⟩
 refine⟨⟨?_,h.inj,λb i f=>⟨Nat.lt_of_lt_of_le (h.safe b i f).1 a.size,(h.safe b i f).2⟩,h.fin,Nat.le_trans h.bw a.size,h.thaw_le e λ_ _ f=>f,h.mps_tr e (λ_ _ _ _ _ h=>h) m λ_ _ f=>.inl f,h.lps_tr (λ_ _ _ h=>h) λb r p=>a.block b (Array.getElem?_eq_some_iff.1 p).1⟩,e,
  m,λ_ _ f=>.inl f,λ_ a=>.inr a⟩
 intro o c g A B q;obtain⟨b,D,p,z,C,t,y,v,u⟩:=h.obj o c g A B q;exact⟨b,D,p,z,C,t,j _ _ _ y,v,u.mono e⟩
theorem T6{G:Nat->V}{f:FuncId}{args:List V}{H:Heap}{K:V->Heap->Prop}
  (h:∀ (X:Cx) (cargs:Array Value),Inv X H->(∀ g,RelG X g (G g))->RelA X cargs args ->
   Calls P f cargs X.w (λe w'=>∃ c v,e=.returned c/\RowKit.Below X.w.heap.size X.w w'/\Rel X c v/\K v H)):Spec P G f args H K:=by
 intro X cargs _ b k l;refine(h X cargs b k l).mono ?_;rintro e w' ⟨c,v,rfl,j,d,i⟩;have a:=Goes.below b j;exact⟨c,v,H,_,rfl,rfl,a,d.mono a.le,i⟩
theorem A5{G:Nat->V}{W:World}{f:FuncId}{args:List V}{a:Array Value}{K:V->Heap->Prop}(h:Spec P G f args Zj K)(k:∀ g,RelG (Wj W) g (G g))(j:RelA (Wj W) a args):
  Calls P f a W (λe w'=>∃ c v H' Y,e=.returned c/\Rel Y c v/\K v H'/\RowKit.Below W.heap.size W w'):=by
 refine(h (Wj W) a rfl (Z6x W) k j).mono ?_;rintro e w' ⟨c,v,H',Y,rfl,rfl,i,b,d⟩;exact⟨c,v,H',Y,rfl,b,d,i.kp.below Ztc⟩
theorem RelA.one{X:Cx}{a:Array Value}{v:V}(h:RelA X a [v]):∃ x,a = #[x]/\Rel X x v:=by
 have b:=h.len;obtain⟨l⟩:=a
 match l,b with
 |[x],_=>exact⟨x,rfl,h.rel 0 zS zS⟩
theorem RelA.two{X:Cx}{a:Array Value}{u v:V}(h:RelA X a [u,v]):∃ x y,a = #[x,y]/\Rel X x u/\Rel X y v:=by
 have b:=h.len;obtain⟨l⟩:=a
 match l,b with
 |[x,y],_=>exact⟨x,y,rfl,h.rel 0 zS zS,h.rel 1 zS zS⟩
theorem Rel.view_inv{X:Cx}{c:Col}{v:V}{b off:Nat}(h:Rel X (.pointer (some ⟨b,off,none⟩)) (.view c v)):
  ∃ f:Nat->Value,∀ i (hi:i<v.cells.length),X.w.cell? ⟨b,off+i,none⟩=some (f i)/\Rel X (f i) (v.cells[i]):=by
 cases h with
 |view c v b off f hc hr=>exact⟨f,λi hi=>⟨(hc i hi).2.2.1,hr i hi⟩⟩
theorem Z3p{X:Cx}(s:ByteArray):RelA X #[.string s] [.str s.data.toList]:=⟨rfl,λi b a=>by
 have:i=0:=by grind
 subst this
 exact .str s _ rfl⟩
end
end Go.Hs
