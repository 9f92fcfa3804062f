/- A part. No condition. -/
import Derived.Test.YtkennpiglkfalaaGreatDoorP28
set_option linter.all false
namespace Go.Hs
section
variable{P:Program}
def BH.below{X H}(h:BZ X H){w'}(a:RowKit.Below X.w.heap.size X.w w'):BH X H {X with w:=w'} H:=by
 have l:∀ b i x,X.cell b i=some x->w'.cell? _=some x:=λb i x d=>
  (a.cell (show(⟨b,i,none⟩:Addr).block<X.w.heap.size from World.block_lt_of_cell? _ _ d)).trans d
 have j:∀ (b:Nat) (c) t,X.w.heap[b]?=some _->w'.heap[b]?=some (Obj.cells c t (0,0)):=λb c t d=>by rw[a.block b zG,d]
 have e:X.le {X with w:=w'}:=⟨λ_ _ _ h=>h,λ_ _ h=>h,λb i x _ d=>l b i x d,rfl,λb c t d=>⟨c,j b c t d,rfl⟩,λb D n _ d=>by rw[a.block b zG,d]⟩
 have m:E_ (Wk X H) _ w':=⟨a.os,a.tape,a.output,a.size,λk s _=>a.block k s⟩;refine⟨⟨?_,h.inj,λb i f=>⟨GU (h.DD b i f).1 a.size,(h.DD b i f).2⟩,h.CK,CT h.bw a.size,h.thaw_le e λ_ _ f=>f,h.mps_tr e (λ_ _ _ _ _ h=>h) m λ_ _ f=>.inl f,h.lps_tr (λ_ _ _ h=>h) λb r p=>a.block b (DB.1 p).1⟩,e,
  m,λ_ _ f=>.inl f,λ_ a=>.inr a⟩
 intro o c g z A q;have⟨b,C,p,h2,B,t,y,v,u⟩:=h.DQ o c g z A q;exact⟨b,C,p,h2,B,t,j _ _ _ y,v,u.mono e⟩
def Sy{G f args H K}(h:∀ X cargs,BZ X H->(∀ g,FI X g (G g))->FA X cargs args ->
   Calls P f cargs X.w (λe w'=>∃ c v,e=.returned c/\RowKit.Below X.w.heap.size X.w w'/\AI X c v/\K v H)):Spec P G f args H K:=by
 intro X cargs _ b k l;refine(h X _ b k l).mono ?_;rintro e w' ⟨c,v,rfl,j,d,i⟩;have a:=BH.below b j;exact⟨c,v,H,_,rfl,rfl,a,d.mono a.le,i⟩
def xh{G W f args cargs K}(h:Spec P G f args Zm K)(j:∀ g,FI (Uv W) g (G g))(i:FA (Uv W) cargs args):Calls P f cargs W (λe w'=>∃ c v H' Y,e=.returned c/\AI Y c v/\K v H'/\RowKit.Below W.heap.size W w'):=by refine(h _ _ rfl (kJ W) j i).mono ?_;rintro e w' ⟨c,v,H',Y,rfl,rfl,d,a,b⟩;exact⟨c,v,H',Y,rfl,a,b,d.kp.below F0⟩
def FA.one{X cargs v}(h:FA X cargs [v]):∃ x,cargs = #[x]/\AI X x v:=by
 have a:=h.len;have⟨l⟩:=cargs
 match l,a with|[x],_=>exact⟨x,rfl,h.CV 0 zS zS⟩
def FA.two{X cargs u v}(h:FA X cargs [u,v]):∃ x y,cargs = #[x,y]/\AI X x u/\AI X y v:=by
 have a:=h.len;have⟨l⟩:=cargs
 match l,a with|[x,y],_=>exact⟨x,y,rfl,h.CV 0 zS zS,h.CV 1 zS zS⟩
def AI.view_inv{X c v b off}(h:AI X (.pointer (some ⟨b,off,none⟩)) (.view c v)):∃ f:Nat->Value,∀ i hi,X.w.cell? ⟨b,off+i,none⟩=some (f i)/\AI X (f i) (v.cells[i]):=by cases h with|view c v b off f hc hr=>exact⟨f,λi hi=>⟨(hc i hi).2.2.1,hr i hi⟩⟩
def AAz{X}(s):FA X #[.string s] [s.data.toList]:=⟨rfl,λi a h2=>by have:i=0:=zG;subst this;exact .AB s _ rfl⟩
