/- A part. No condition. -/
import Derived.KernelRfl
import Derived.Calls
import Derived.Below
set_option linter.all false
namespace Go.Hs
inductive Col where
 |new|old|any
 deriving DecidableEq
inductive V where
 |top
 |bool (b:Bool)
 |int (k:IntKind) (n:Int)
 |str (s:List UInt8)
 |nilp
 |view (c:Col) (v:V)
 |ptr (o g off:Nat)
 |nils
 |slice (c:Col) (clip:Bool) (E:Nat) (l:List V)
 |msl (o g off len E:Nat)
 |func (fn:Fn) (first captured:List V)
 |nilf
 |iface (t:TypeId) (v:V)
 |nili
 |agg (cs:List V)
 |tuple (vs:List V)
 |nilm
 |mapv (ks vs:List V)
 |mref (o b:Nat)
 deriving Inhabited
def V.cells:V->List V
 |.agg cs=>cs
 |v=>[v]
def flat(l:List V):List V:=l.flatMap V.cells
structure Cx where
 β : Nat->Nat->Option (Nat×Nat)
 S:Nat->Nat->Prop
 base:Nat
 w:World
def Cx.cell(X:Cx)(b i:Nat):Option Value:=X.w.cell? ⟨b,i,none⟩
def Col.ok(c:Col)(base b:Nat):Prop:=
 match c with
 |.new=>base<=b
 |.old=>b<base
 |.any=>True
inductive Rel(X:Cx):Value->V->Prop
 |top (x:Value):Rel X x .top
 |bool (b:Bool):Rel X (.bool b) (.bool b)
 |int (k:IntKind) (n:Int):Rel X (.int k n) (.int k n)
 |str (s:ByteArray) (l:List UInt8) (h:s.data.toList=l):Rel X (.string s) (.str l)
 |nilp:Rel X (.pointer none) .nilp
 |view (c:Col) (v:V) (b off:Nat) (f:Nat->Value)
   (hc:∀ i,i<v.cells.length->X.S b (off+i)/\c.ok X.base b/\X.cell b (off+i)=some (f i)/\(f i).oneCell'=true)
   (hr:∀ i (h:i<v.cells.length),Rel X (f i) (v.cells[i])):Rel X (.pointer (some ⟨b,off,none⟩)) (.view c v)
 |ptr (o g off b bs:Nat) (h:X.β o g=some (b,bs)):Rel X (.pointer (some ⟨b,bs+off,none⟩)) (.ptr o g off)
 |nils:Rel X (.slice none 0 0) .nils
 |slice (c:Col) (clip:Bool) (E:Nat) (l:List V) (b off cap:Nat) (f:Nat->Value)
   (hcap:l.length<=cap) (hclip:clip=true->cap=l.length) (hE:∀ v∈l,v.cells.length=E)
   (hc:∀ i,i<(flat l).length->X.S b (off+i)/\c.ok X.base b/\X.cell b (off+i)=some (f i)/\(f i).oneCell'=true)
   (hr:∀ i (h:i<(flat l).length),Rel X (f i) ((flat l)[i])):
   Rel X (.slice (some ⟨b,off,none⟩) l.length cap) (.slice c clip E l)
 |slice0 (c:Col) (clip:Bool) (E:Nat) (a:Addr):Rel X (.slice (some a) 0 0) (.slice c clip E [])
 |msl (o g off len E b bs cap:Nat) (h:X.β o g=some (b,bs)) (hcap:len<=cap)
   (hb:∃ c t,X.w.heap[b]?=some (.cells c t (0,0))/\bs+off+cap*E<=c.size):
   Rel X (.slice (some ⟨b,bs+off,none⟩) len cap) (.msl o g off len E)
 |func (fn:Fn) (xs ys:Array Value) (ls ms:List V) (hx:xs.size=ls.length) (hy:ys.size=ms.length)
   (hxr:∀ i (h1:i<xs.size) (h2:i<ls.length),Rel X xs[i] ls[i])
   (hyr:∀ i (h1:i<ys.size) (h2:i<ms.length),Rel X ys[i] ms[i]):Rel X (.func fn xs ys) (.func fn ls ms)
 |nilf:Rel X .nilFunc .nilf
 |iface (t:TypeId) (x:Value) (v:V) (h:Rel X x v):Rel X (.iface t x) (.iface t v)
 |nili:Rel X .nilIface .nili
 |agg (xs:Array Value) (l:List V) (hx:xs.size=l.length) (ho:∀ x∈xs,x.oneCell'=true)
   (hr:∀ i (h1:i<xs.size) (h2:i<l.length),Rel X xs[i] l[i]):Rel X (.agg xs) (.agg l)
 |tuple (xs:Array Value) (l:List V) (hx:xs.size=l.length)
   (hr:∀ i (h1:i<xs.size) (h2:i<l.length),Rel X xs[i] l[i]):Rel X (.tuple xs) (.tuple l)
 |nilm:Rel X (.map none) .nilm
 |mref (o b:Nat):Rel X (.map (some b)) (.mref o b)
 |mapv (b n:Nat) (es:Array MapEntry) (ks vs:List V) (hs:X.S b 0) (hb:X.w.heap[b]?=some (.map es n)) (hk:es.size=ks.length) (hv:es.size=vs.length)
   (hkr:∀ i (h1:i<es.size) (h2:i<ks.length),Rel X es[i].key ks[i])
   (hvr:∀ i (h1:i<es.size) (h2:i<vs.length),Rel X es[i].val vs[i]):Rel X (.map (some b)) (.mapv ks vs)
structure Cx.le(X Y:Cx):Prop where
 β : ∀ o g p,X.β o g=some p->Y.β o g=some p
 S:∀ b i,X.S b i->Y.S b i
 cell:∀ b i x,X.S b i->X.cell b i=some x->Y.cell b i=some x
 base:Y.base=X.base
 blk:∀ (b:Nat) (c:Array Value) t,X.w.heap[b]?=some (Obj.cells c t (0,0))->∃ c':Array Value,Y.w.heap[b]?=some (Obj.cells c' t (0,0))/\c'.size=c.size
 map:∀ (b:Nat) es n,X.S b 0->X.w.heap[b]?=some (Obj.map es n)->Y.w.heap[b]?=some (Obj.map es n)
theorem Cx.le.refl(X:Cx):X.le X:=⟨λ_ _ _ h=>h,λ_ _ h=>h,λ_ _ _ _ h=>h,rfl,λ_ c _ h=>⟨c,h,rfl⟩,λ_ _ _ _ h=>h⟩
theorem Cx.le.trans{X Y Z:Cx}(h:X.le Y)(k:Y.le Z):X.le Z where
 β := λo g p e=>k.β o g p (h.β o g p e)
 S:=λb i a=>k.S b i (h.S b i a)
 cell:=λb i x a f=>k.cell b i x (h.S b i a) (h.cell b i x a f)
 base:=k.base.trans h.base
 blk:=λb c t d=>by
  obtain⟨m,j,s⟩:=h.blk b c t d;obtain⟨l,r,q⟩:=k.blk b m t j
  grind
 map:=λb es n a d=>k.map b es n (h.S _ _ a) (h.map b es n a d)
theorem Rel.mono{X Y:Cx}(d:X.le Y){x:Value}{v:V}(h:Rel X x v):Rel Y x v:=by
 induction h with
 |top x=>exact .top x
 |bool b=>exact .bool b
 |int k n=>exact .int k n
 |str s l h=>exact .str s l h
 |nilp=>exact .nilp
 |view c v b off f hc hr ih=>
  refine .view c v b off f (λi p=>?_) ih;obtain⟨j,w,u,r⟩:=hc i p;exact⟨d.S _ _ j,by rw[d.base];exact w,d.cell _ _ _ j u,r⟩
 |ptr o g off b bs h=>exact .ptr o g off b bs (d.β _ _ _ h)
 |nils=>exact .nils
 |slice c clip E l b off cap f hcap hclip hE hc hr ih=>
  refine .slice c clip E l b off cap f hcap hclip hE (λi p=>?_) ih;obtain⟨j,w,u,r⟩:=hc i p;exact⟨d.S _ _ j,by rw[d.base];exact w,d.cell _ _ _ j u,r⟩
 |slice0 c clip E a=>exact .slice0 c clip E a
 |msl o g off len E b bs cap h hcap e=>
  obtain⟨c,t,e,m⟩:=e;obtain⟨z,q,y⟩:=d.blk _ _ _ e;exact .msl o g off len E b bs cap (d.β _ _ _ h) hcap ⟨z,t,q,by omega⟩
 |func fn xs ys ls ms hx hy hxr hyr ihx ihy=>exact .func fn xs ys ls ms hx hy ihx ihy
 |nilf=>exact .nilf
 |iface t x v h ih=>exact .iface t x v ih
 |nili=>exact .nili
 |agg xs l hx ho hr ih=>exact .agg xs l hx ho ih
 |tuple xs l hx hr ih=>exact .tuple xs l hx ih
 |nilm=>exact .nilm
 |mref o b=>exact .mref o b
 |mapv b n es ks vs m e hk hv hkr hvr ihk ihv=>exact .mapv b n es ks vs (d.S _ _ m) (d.map _ _ _ m e) hk hv ihk ihv
theorem zo{Q:Prop}(h:Q:=by omega):Q:=h
theorem zd{Q:Prop}(h:Q:=by decide):Q:=h
theorem zS{Q:Prop}(h:Q:=by simp):Q:=h
theorem zO{Q:Prop}(h:Q:=by simp; omega):Q:=h
theorem zk{Q:Prop}(h:Q:=by kernel_rfl):Q:=h
theorem zu{P Q:Prop}(f:P)(h:P->Q:=by intro z;simpa using z):Q:=h f
end Go.Hs
