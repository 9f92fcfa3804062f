/- A part. No condition. -/
import Derived.Test.YtoahejkahaimnaaGreatDoorP34
set_option linter.all false
namespace Go.Hs
section
variable{P:Program}
theorem Goes.below{X:Cx}{H:Heap}(h:Inv X H){w':World}(hb:RowKit.Below X.w.heap.size X.w w'):Goes X H { X with w:=w' } H:=by
 have hcell:∀ b i x,X.cell b i=some x->w'.cell? ⟨b,i,none⟩=some x:=λb i x hc=>
  (hb.cell (show(⟨b,i,none⟩:Addr).block<X.w.heap.size from World.block_lt_of_cell? _ _ hc)).trans hc
 have hblk:∀ (b:Nat) (c:Array Value) t,X.w.heap[b]?=some (Obj.cells c t (0,0))->w'.heap[b]?=some (Obj.cells c t (0,0)):=λb c t hc=>by
  rw[hb.block b (by rw[Array.getElem?_eq_some_iff]at hc;exact hc.1),hc]
 have hle:X.le { X with w:=w' }:=⟨λ_ _ _ h=>h,λ_ _ h=>h,λb i x _ hc=>hcell b i x hc,rfl,λb c t hc=>⟨c,hblk b c t hc,rfl⟩,λb es n _ hc=>by
  show w'.heap[b]?=_
  rw[hb.block b (by rw[Array.getElem?_eq_some_iff]at hc;exact hc.1),hc]⟩
 have hkp:Keep (LiveB X H) X.w w':=⟨hb.os,hb.tape,hb.output,hb.size,λk hk _=>hb.block k hk⟩
 refine⟨⟨?_,h.inj,λb i hs=>⟨Nat.lt_of_lt_of_le (h.safe b i hs).1 hb.size,(h.safe b i hs).2⟩,h.fin,Nat.le_trans h.bw hb.size,h.thaw_le hle λ_ _ hs=>hs,h.mps_tr hle (λ_ _ _ _ _ h=>h) hkp λ_ _ hs=>.inl hs,h.lps_tr (λ_ _ _ h=>h) λb r h1=>hb.block b (Array.getElem?_eq_some_iff.1 h1).1⟩,hle,
  hkp,λ_ _ hs=>.inl hs,λ_ hb=>.inr hb⟩
 intro o c g fz cs ho;obtain⟨b,bs,h1,h2,c',t,h3,h4,h5⟩:=h.obj o c g fz cs ho;exact⟨b,bs,h1,h2,c',t,hblk _ _ _ h3,h4,h5.mono hle⟩
theorem Zrd{G:Nat->V}{f:FuncId}{args:List V}{H:Heap}{K:V->Heap->Prop}
  (h:∀ (X:Cx) (cargs:Array Value),Inv X H->(∀ g,RelG X g (G g))->RelA X cargs args ->
   Calls P f cargs X.w (λe w'=>∃ c v,e=.returned c/\RowKit.Below X.w.heap.size X.w w'/\Rel X c v/\K v H)):Spec P G f args H K:=by
 intro X cargs _ hI hG hA;refine(h X cargs hI hG hA).mono ?_;rintro e w' ⟨c,v,rfl,hb,hr,hk⟩;have hg:=Goes.below hI hb;exact⟨c,v,H,_,rfl,rfl,hg,hr.mono hg.le,hk⟩
theorem Zrt{G:Nat->V}{W:World}{f:FuncId}{args:List V}{cargs:Array Value}{K:V->Heap->Prop}(h:Spec P G f args Zk K)(hG:∀ g,RelG (Z9b W) g (G g))(hR:RelA (Z9b W) cargs args):
  Calls P f cargs W (λe w'=>∃ c v H' Y,e=.returned c/\Rel Y c v/\K v H'/\RowKit.Below W.heap.size W w'):=by
 refine(h (Z9b W) cargs rfl (Zoga W) hG hR).mono ?_;rintro e w' ⟨c,v,H',Y,rfl,rfl,hg,hr,hk⟩;exact⟨c,v,H',Y,rfl,hr,hk,hg.kp.below Z7n⟩
theorem RelA.one{X:Cx}{cargs:Array Value}{v:V}(h:RelA X cargs [v]):∃ x,cargs = #[x]/\Rel X x v:=by
 have hl:=h.len;obtain⟨l⟩:=cargs
 match l,hl with
 |[x],_=>exact⟨x,rfl,h.rel 0 zS zS⟩
theorem RelA.two{X:Cx}{cargs:Array Value}{u v:V}(h:RelA X cargs [u,v]):∃ x y,cargs = #[x,y]/\Rel X x u/\Rel X y v:=by
 have hl:=h.len;obtain⟨l⟩:=cargs
 match l,hl with
 |[x,y],_=>exact⟨x,y,rfl,h.rel 0 zS zS,h.rel 1 zS zS⟩
theorem Rel.view_inv{X:Cx}{c:Col}{v:V}{b off:Nat}(h:Rel X (.pointer (some ⟨b,off,none⟩)) (.view c v)):
  ∃ f:Nat->Value,∀ i (hi:i<v.cells.length),X.w.cell? ⟨b,off+i,none⟩=some (f i)/\Rel X (f i) (v.cells[i]):=by
 cases h with
 |view c v b off f hc hr=>exact⟨f,λi hi=>⟨(hc i hi).2.2.1,hr i hi⟩⟩
theorem Z04{X:Cx}(s:ByteArray):RelA X #[.string s] [.str s.data.toList]:=⟨rfl,λi h1 h2=>by
 have:i=0:=zu h1;subst this
 exact .str s _ rfl⟩
end
end Go.Hs
