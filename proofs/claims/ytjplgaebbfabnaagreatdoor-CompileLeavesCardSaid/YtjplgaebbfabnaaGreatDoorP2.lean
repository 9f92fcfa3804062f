/- A part. No condition. -/
import Derived.Test.YtjplgaebbfabnaaGreatDoorP1
import Derived.Laws.Strings
import Derived.Laws.StructEq
import Derived.Laws.Cells
set_option linter.all false
namespace Go.Hs
section
def Np:Value->Option V
 |.bool b=>some (.bool b)
 |.int k n=>some (.int k n)
 |.string s=>some (.str s.data.toList)
 |.pointer none=>some .nilp
 |.slice none 0 0=>some .nils
 |.map none=>some .nilm
 |.nilFunc=>some .nilf
 |.nilIface=>some .nili
 |.func fn xs ys=>if xs.size=0/\ys.size=0 then some (.func fn [] [])else none
 |_=>none
def Hz:List Value->Option (List V)
 |[]=>some []
 |x::r=>match Np x,Hz r with
  |some v,some l=>some (v::l)
  |_,_=>none
def Cg:Value->Option V
 |.agg xs=>(Hz xs.toList).map .agg
 |.tuple xs=>if xs.size=0 then some (.tuple [])else none
 |v=>Np v
theorem Ds(X:Cx){x:Value}{v:V}(h:Np x=some v):Rel X x v/\x.oneCell'=true:=by
 cases x<;>(try simp only[Np,Option.some.injEq,reduceCtorEq]at h)
 case bool b=>subst h;exact⟨.bool b,rfl⟩
 case int k n=>subst h;exact⟨.int k n,rfl⟩
 case string s=>subst h;exact⟨.str s _ rfl,rfl⟩
 case pointer a=>cases a<;>simp at h;subst h;exact⟨.nilp,rfl⟩
 case slice a l c=>
  cases a with
  |some a=>simp[Np]at h
  |none=>
   cases l with
   |succ l=>simp[Np]at h
   |zero=>
    cases c with
    |succ c=>simp[Np]at h
    |zero=>simp[Np]at h;subst h;exact⟨.nils,rfl⟩
 case map r=>cases r<;>simp at h;subst h;exact⟨.nilm,rfl⟩
 case nilFunc=>subst h;exact⟨.nilf,rfl⟩
 case nilIface=>subst h;exact⟨.nili,rfl⟩
 case func fn xs ys=>
  split at h
  rename_i e;simp at h;subst h;exact⟨.func fn xs ys [] [] e.1 e.2 (λi f d=>by simp at d) (λi f d=>by simp at d),rfl⟩;simp at h
theorem Dr(X:Cx):∀ {xs:List Value} {l:List V},Hz xs=some l->xs.length=l.length/\(∀ x∈xs,x.oneCell'=true)/\∀ i (h1:i<xs.length) (h2:i<l.length),Rel X xs[i] l[i]
 |[],l,h=>by simp[Hz]at h;subst h;simp
 |x::r,l,h=>by
  simp only[Hz]at h
  cases h1:Np x with
  |none=>grind
  |some v=>
   cases h2:Hz r with
   |none=>grind
   |some m=>
    rw[h1,h2]at h;simp at h;subst h;obtain⟨a,b,c⟩:=Dr X h2;obtain⟨d,e⟩:=Ds X h1
    grind
theorem Hl(X:Cx){x:Value}{v:V}(h:Cg x=some v):Rel X x v:=by
 cases x
 case agg xs=>
  simp only[Cg,Option.map_eq_some_iff]at h;obtain⟨l,e,d⟩:=h;subst d;obtain⟨a,b,c⟩:=Dr X e;exact .agg xs l (by grind) (by grind) (λi e d=>by grind)
 case tuple xs=>
  simp only[Cg]at h
  split at h
  rename_i f;simp at h;subst h;exact .tuple xs [] f (λi e d=>by grind)
  grind
 all_goals(simp only[Cg]at h;exact(Ds X h).1)
def S0(P:Program)(t:TypeId):Option Bool:=
 match P.underlying t with
 |some (.struct _)|some (.array _ _)=>some true
 |some _=>some false
 |none=>none
def Yw(P:Program)(t:TypeId):Option Nat:=(P.info? t).map (·.size)
variable{P:Program}{X:Cx}{w:World}
theorem Zk{t:TypeId}{d:TypeDesc}(h:P.underlying t=some d):(underlying t).run P w=.ok d w:=by simp[underlying,h]
theorem Y0{t:TypeId}{n:Nat}(h:Yw P t=some n):(sizeOf t).run P w=.ok n w:=by
 unfold Yw at h
 cases a:P.info? t with
 |none=>grind
 |some i=>simp[a]at h;simp[sizeOf,typeInfo,a,h]
theorem Qs{t:TypeId}{b:Bool}(h:S0 P t=some b):(isAgg t).run P w=.ok b w:=by
 unfold S0 at h;unfold isAgg
 cases a:P.underlying t with
 |none=>grind
 |some d=>simp only[Sem.run_bind,Zk a];cases d<;>simp_all
def Pr(P:Program)(t:TypeId)(cs:List V)(off:Nat):Option V:=
 match S0 P t,Yw P t with
 |some true,some n=>if off+n<=cs.length then some (.agg ((cs.drop off).take n))else none
 |some false,some 1=>cs[off]?
 |_,_=>none
theorem Z8i{t:TypeId}{cs:List V}{off:Nat}{v:V}{n:Nat}(h:Pr P t cs off=some v)(e:Yw P t=some n)(c:∀ x∈cs,x.cells=[x]):
  off+n<=cs.length/\v.cells=(cs.drop off).take n/\v.cells.length=n:=by
 unfold Pr at h;rw[e]at h
 cases f:S0 P t with
 |none=>grind
 |some b=>
  cases b with
  |true=>
   simp only[f]at h
   split at h
   simp at h;subst h;simp[V.cells];omega
   grind
  |false=>
   split at h<;>simp_all
   rename_i d;rw[List.getElem?_eq_some_iff]at h;obtain⟨a,rfl⟩:=h;have:=c _ (List.getElem_mem a);rw[this];refine⟨a,?_,rfl⟩;rw[List.take_one];simp[a]
def intV(op:BinOp)(k:IntKind)(a b:Int):Option V:=
 match op with
 |.add=>some (.int k (k.wrap (a+b)))
 |.sub=>some (.int k (k.wrap (a-b)))
 |.mul=>some (.int k (k.wrap (a*b)))
 |.quo=>if b=0 then none else some (.int k (k.wrap (a.tdiv b)))
 |.rem=>if b=0 then none else some (.int k (a.tmod b))
 |.and=>some (.int k (k.wrap (BitVec.ofInt k.bits a &&& BitVec.ofInt k.bits b).toNat))
 |.or=>some (.int k (k.wrap (BitVec.ofInt k.bits a ||| BitVec.ofInt k.bits b).toNat))
 |.xor=>some (.int k (k.wrap (BitVec.ofInt k.bits a ^^^ BitVec.ofInt k.bits b).toNat))
 |.andNot=>some (.int k (k.wrap (BitVec.ofInt k.bits a &&& ~~~(BitVec.ofInt k.bits b)).toNat))
 |.eql=>some (.bool (a==b))
 |.neq=>some (.bool (a != b))
 |.lss=>some (.bool (a<b))
 |.leq=>some (.bool (a<=b))
 |.gtr=>some (.bool (a>b))
 |.geq=>some (.bool (a>=b))
 |.shl|.shr=>none
def Z5q(op:BinOp)(k:IntKind)(a b:Int):Option V:=
 if b<0 then none else
 match op with
 |.shl=>some (.int k (k.wrap (a*2^(min b.toNat k.bits))))
 |.shr=>some (.int k (a.fdiv (2^(min b.toNat k.bits))))
 |_=>none
def Zoq(op:BinOp)(a b:List UInt8):Option V:=
 match op with
 |.add=>if((a.length+b.length:Nat):Int)>IntKind.i64.max then none else some (.str (a++b))
 |.eql=>some (.bool (a==b))
 |.neq=>some (.bool (!(a==b)))
 |.lss=>some (.bool (Op.bytesLess a b))
 |.leq=>some (.bool (Op.bytesLess a b||a==b))
 |.gtr=>some (.bool (!(Op.bytesLess a b||a==b)))
 |.geq=>some (.bool (!(Op.bytesLess a b)))
 |_=>none
def Ap(P:Program)(t:TypeId)(a:V):Option Bool:=
 match P.underlying t,a with
 |some (.pointer _),.nilp=>some true
 |some (.pointer _),.view _ _=>some false
 |some (.pointer _),.ptr _ _ _=>some false
 |some (.slice _),.nils=>some true
 |some (.slice _),.slice _ _ _ _=>some false
 |some (.slice _),.msl _ _ _ _ _=>some false
 |some (.func _ _ _),.nilf=>some true
 |some (.func _ _ _),.func _ _ _=>some false
 |some (.interface _),.iface _ _=>some false
 |some (.map _ _),.nilm=>some true
 |_,_=>none
theorem R2(op:BinOp)(t:TypeId)(x y:Operand)(a b:Value)(h:¬ (a=.nilIface/\b=.nilIface))(c:¬ ((∃ l,a=.agg l)/\∃ l,b=.agg l)):(eqGuard op t x y a b).run P w=.ok () w:=by
 unfold eqGuard
 cases a<;>cases b<;>first
  |(exact absurd ⟨rfl,rfl⟩ h)
  |(exact absurd ⟨⟨_,rfl⟩,⟨_,rfl⟩⟩ c)
  |(cases op<;>simp)
theorem Rel.int_inv{c:Value}{k:IntKind}{n:Int}(h:Rel X c (.int k n)):c=.int k n:=by cases h;rfl
theorem Rel.bool_inv{c:Value}{b:Bool}(h:Rel X c (.bool b)):c=.bool b:=by cases h;rfl
theorem Rel.str_inv{c:Value}{l:List UInt8}(h:Rel X c (.str l)):∃ s,c=.string s/\s.data.toList=l:=by cases h;grind
theorem Zh2(op:BinOp)(k:IntKind)(a b:Int)(t:TypeId)(d:op ≠ .shl)(c:op ≠ .shr):
  binOp op t (.int k a) (.int k b)=match op with
  |.add|.sub|.mul=>Op.intArith op k a b
  |.quo|.rem=>Op.intDiv op k a b
  |.and|.or|.xor|.andNot=>Op.intBits op k a b
  |_=>Op.intCmp op a b:=by
 cases op<;>first|exact absurd rfl d|exact absurd rfl c|(simp only[binOp];rw[if_neg zS])
theorem Zcaa{op:BinOp}{k:IntKind}{a b:Int}{t:TypeId}{v:V}(f:op ≠ .shl)(e:op ≠ .shr)(h:intV op k a b=some v):
  ∃ c,(binOp op t (.int k a) (.int k b)).run P w=.ok c w/\Rel X c v:=by
 rw[Zh2 op k a b t f e]
 cases op<;>simp only[intV,Option.some.injEq,reduceCtorEq]at h
 case quo=>
  split at h
  grind
  rename_i d;simp at h;subst h;exact⟨.int k _,by simp[Op.intDiv,d],.int _ _⟩
 case rem=>
  split at h
  simp at h;rename_i d;simp at h;subst h;exact⟨.int k _,by simp[Op.intDiv,d],.int _ _⟩
 case add=>subst h;exact⟨_,rfl,.int _ _⟩
 case sub=>subst h;exact⟨_,rfl,.int _ _⟩
 case mul=>subst h;exact⟨_,rfl,.int _ _⟩
 case and=>subst h;exact⟨_,rfl,.int _ _⟩
 case or=>subst h;exact⟨_,rfl,.int _ _⟩
 case xor=>subst h;exact⟨_,rfl,.int _ _⟩
 case andNot=>subst h;exact⟨_,rfl,.int _ _⟩
 all_goals(subst h;exact⟨_,rfl,.bool _⟩)
theorem Zkz{op:BinOp}{k k':IntKind}{a b:Int}{t:TypeId}{v:V}(d:op=.shl\/op=.shr)(h:Z5q op k a b=some v):
  ∃ c,(binOp op t (.int k a) (.int k' b)).run P w=.ok c w/\Rel X c v:=by
 unfold Z5q at h
 by_cases e:b<0
 grind
 simp only[e,if_false]at h
 rcases d with rfl|rfl<;>(simp only[Option.some.injEq]at h;subst h;exact⟨.int k _,by simp only[binOp,Op.shift,e];rfl,.int _ _⟩)
theorem Zbaa{op:BinOp}{s r:ByteArray}{t:TypeId}{v:V}(h:Zoq op s.data.toList r.data.toList=some v):
  ∃ c,(binOp op t (.string s) (.string r)).run P w=.ok c w/\Rel X c v:=by
 have a:s.toList=s.data.toList:=ByteArray.toList_eq s;have b:r.toList=r.data.toList:=ByteArray.toList_eq r
 cases op<;>simp only[Zoq,reduceCtorEq,Option.some.injEq]at h
 case add=>
  split at h
  grind
  rename_i d;simp at h;subst h;refine⟨.string (s++r),?_,.str _ _ zS⟩;simp only[binOp,Op.stringOp];simp_all
 all_goals(subst h;refine⟨.bool _,?_,.bool _⟩;simp only[binOp,Op.stringOp,a,b];rfl)
def P0(P:Program)(t:TypeId)(b:V):Bool:=
 match P.underlying t,b with
 |some (.pointer _),.nilp|some (.slice _),.nils|some (.func _ _ _),.nilf|some (.interface _),.nili|some (.map _ _),.nilm=>true
 |_,_=>false
theorem Zzx{t:TypeId}{a b:V}{x y:Value}{r:Bool}(d:Nat)(i:Rel X x a)(g:Rel X y b)(f:P0 P t b=true)(h:Ap P t a=some r):
  (Op.equalIn (d+1) t x y).run P w=.ok r w/\(Op.equalIn (d+1) t y x).run P w=.ok r w:=by
 unfold Ap at h;unfold P0 at f
 cases e:P.underlying t with
 |none=>simp[e]at h
 |some k=>
  have c:=Zk (w:=w) e;rw[e]at f h
  cases k<;>cases g<;>simp only[reduceCtorEq]at f<;>cases i<;>simp only[Option.some.injEq,reduceCtorEq]at h<;>subst h <;>
   simp only[Op.equalIn,Sem.run_bind,c,Result.andThen_ok,Sem.run_pure]<;>first|exact⟨rfl,rfl⟩|exact⟨rfl,trivial⟩|exact⟨trivial,rfl⟩|trivial
theorem Ck{t:TypeId}{a:V}{x:Value}{r:Bool}(c:Rel X x a)(h:Ap P t a=some r):
  x ≠ .nilIface/\(∀ l,x ≠ .agg l)/\(∀ k n,x ≠ .int k n)/\(∀ s,x ≠ .string s)/\(∀ k n,x ≠ .float k n)/\(∀ k n m,x ≠ .complex k n m):=by
 unfold Ap at h
 cases b:P.underlying t with
 |none=>simp[b]at h
 |some k=>rw[b]at h;cases k<;>cases c<;>simp_all
theorem Ix{t:TypeId}{x y:Value}(a:(∀ k n,x ≠ .int k n)/\(∀ s,x ≠ .string s)/\(∀ k n,x ≠ .float k n)/\(∀ k n m,x ≠ .complex k n m)):
  binOp .eql t x y=(do pure (.bool (<- Op.equal t x y)))/\binOp .neq t x y=(do pure (.bool (!(<- Op.equal t x y)))):=by
 obtain⟨e,d,c,b⟩:=a
 cases x<;>first
  |exact absurd rfl (e _ _)
  |exact absurd rfl (d _)
  |exact absurd rfl (c _ _)
  |exact absurd rfl (b _ _ _)
  |(cases y<;>exact⟨rfl,rfl⟩)
theorem A3{t:TypeId}{x y:Value}(a:(∀ k n,y ≠ .int k n)/\(∀ s,y ≠ .string s)/\(∀ k n,y ≠ .float k n)/\(∀ k n m,y ≠ .complex k n m)):
  binOp .eql t x y=(do pure (.bool (<- Op.equal t x y)))/\binOp .neq t x y=(do pure (.bool (!(<- Op.equal t x y)))):=by
 obtain⟨e,d,c,b⟩:=a
 cases y<;>first
  |exact absurd rfl (e _ _)
  |exact absurd rfl (d _)
  |exact absurd rfl (c _ _)
  |exact absurd rfl (b _ _ _)
  |(cases x<;>exact⟨rfl,rfl⟩)
def eqV(P:Program)(t:TypeId)(a b:V):Option Bool:=
 match a,b with
 |.bool x,.bool y=>if(match P.underlying t with|some .bool=>true|_=>false)then some (x==y)else none
 |_,_=>
  if P0 P t b then Ap P t a
  else if P0 P t a then Ap P t b
  else none
theorem Zhy{t:TypeId}{a b:V}{x y:Value}{r:Bool}(s:Rel X x a)(o:Rel X y b)(h:eqV P t a b=some r)(n m:Operand)(op:BinOp)(i:op=.eql\/op=.neq):
  (do eqGuard op t n m x y;binOp op t x y:Sem Value).run P w=.ok (.bool (if op=.eql then r else !r)) w:=by
 by_cases k:∃ p q,a=.bool p/\b=.bool q
 obtain⟨p,q,rfl,rfl⟩:=k;cases s;cases o;simp only[eqV]at h
 split at h
 rename_i u;have H:=Zk (w:=w) u;simp at h;subst h
 have v:∀ d,(Op.equalIn (d+1) t (.bool p) (.bool q)).run P w=.ok (p==q) w:=λd=>by
  simp only[Op.equalIn,Sem.run_bind,H,Result.andThen_ok,Sem.run_pure]
 have j:(Op.equal t (.bool p) (.bool q)).run P w=.ok (p==q) w:=v 9999;have f:=R2 (P:=P) (w:=w) op t n m (.bool p) (.bool q) zS zS;have c:=Ix (t:=t) (x:=.bool p) (y:=.bool q) zS
 rcases i with rfl|rfl
 simp only[Sem.run_bind,f,Result.andThen_ok,c.1,j,Sem.run_pure,if_true];simp only[Sem.run_bind,f,Result.andThen_ok,c.2,j,Sem.run_pure];rfl;simp at h
 have g:(if P0 P t b then Ap P t a else if P0 P t a then Ap P t b else none)=some r:=by
  unfold eqV at h
  split at h
  exact absurd ⟨_,_,rfl,rfl⟩ k;exact h
 clear h
 by_cases z:P0 P t b=true
 simp only[z,if_true]at g;obtain⟨G,F,E,D,C,B⟩:=Ck s g;have j:=(Zzx (w:=w) 9999 s o z g).1;have e:(Op.equal t x y).run P w=.ok r w:=j;have f:=R2 (P:=P) (w:=w) op t n m x y (λh=>G h.1) (λh=>let ⟨⟨l,hl⟩,_⟩:=h;F l hl);have c:=Ix (t:=t) (x:=x) (y:=y) ⟨E,D,C,B⟩
 rcases i with rfl|rfl
 simp[f,c.1,e];simp[f,c.2,e];simp only[z,Bool.false_eq_true,if_false]at g
 by_cases A:P0 P t a=true
 simp only[A,if_true]at g;obtain⟨G,F,E,D,C,B⟩:=Ck o g;have j:=(Zzx (w:=w) 9999 o s A g).2;have e:(Op.equal t x y).run P w=.ok r w:=j;have f:=R2 (P:=P) (w:=w) op t n m x y (λh=>G h.2) (λh=>let ⟨_,⟨l,hl⟩⟩:=h;F l hl);have c:=A3 (t:=t) (x:=x) (y:=y) ⟨E,D,C,B⟩
 rcases i with rfl|rfl
 simp[f,c.1,e];simp[f,c.2,e];simp[A]at g
def eqC:V->V->Option Bool
 |.int k a,.int k' b=>if k=k' then some (a==b)else none
 |.str a,.str b=>some (a==b)
 |.bool a,.bool b=>some (a==b)
 |_,_=>none
def Zkt:List V->List V->Option Bool
 |[],[]=>some true
 |a::r,b::s=>match eqC a b with
  |some true=>Zkt r s
  |some false=>some false
  |none=>none
 |_,_=>none
def Zak(P:Program)(t:TypeId)(v:V):Bool:=match P.underlying t,v with
 |some (.int _),.int _ _=>true
 |some .string,.str _=>true
 |some .bool,.bool _=>true
 |_,_=>false
def Z9j(P:Program):Nat->List Field->List V->Bool
 |_,[],[]=>true
 | i,f::r,v::s=>f.name != "_" && f.offset==i && Zak P f.type v && Z9j P (i+1) r s
 |_,_,_=>false
theorem Zna{X:Cx}{t:TypeId}{v:V}{off:Nat}{xs:Array Value}{c:Value}(w:World)(b:Zak P t v=true)(e:xs[off]?=some c):(part t xs off).run P w=.ok c w:=by
 unfold Zak at b
 cases a:P.underlying t with
 |none=>grind
 |some d=>cases d<;>simp[a]at b<;>simp[part,isAgg,Zk a,e]
theorem Zeaa{X:Cx}{t:TypeId}{a b:V}{x y:Value}{r:Bool}(d:Nat)(w:World)(e:Zak P t a=true)(g:Rel X x a)(f:Rel X y b)(h:eqC a b=some r):(Op.equalIn (d+1) t x y).run P w=.ok r w:=by
 unfold Zak at e
 cases a<;>cases b<;>simp only[eqC,reduceCtorEq]at h
 case int.int k p k' q=>
  split at h
  .rename_i hk
   subst hk;cases g;cases f
   cases c:P.underlying t with
   |none=>simp[c]at e
   |some u=>
    cases u<;>simp[c]at e
    rw[run_equalIn_int w d t k _ p q c];cases h;rfl
  cases h
 case str.str p q=>
  cases g with
  |str s _ hs=>
   cases f with
   |str s' _ hs'=>
    cases c:P.underlying t with
    |none=>simp[c]at e
    |some u=>
     cases u<;>simp[c]at e
     rw[run_equalIn_string w d t s s' c,ByteArray.toList_eq,ByteArray.toList_eq]
     show Result.ok (s.data.toList==s'.data.toList) w=_
     rw[hs,hs'];cases h;rfl
 case bool.bool p q=>
  cases g;cases f
  cases c:P.underlying t with
  |none=>simp[c]at e
  |some u=>
   cases u<;>simp[c]at e
   rw[run_equalIn_bool' w d t p q c];cases h;rfl
theorem Dg{X:Cx}{xs ys:Array Value}(d:Nat)(w:World):∀ (fs:List Field) (i:Nat) (ls ms:List V) (r:Bool),Z9j P i fs ls=true->Zkt ls ms=some r ->
  (∀ j (h:j<ls.length),∃ c,xs[i+j]?=some c/\Rel X c ls[j])->(∀ j (h:j<ms.length),∃ c,ys[i+j]?=some c/\Rel X c ms[j])->(Op.eqFields (d+1) xs ys fs).run P w=.ok r w
 |[],i,[],ms,r,hf,he,_,_=>by
  cases ms with
  |nil=>cases he;rfl
  |cons=>cases he
 |[],i,_::_,_,_,hf,_,_,_=>by cases hf
 |f::fs,i,[],_,_,hf,_,_,_=>by cases hf
 |f::fs,i,a::ls,ms,r,hf,he,hx,hy=>by
  cases ms with
  |nil=>cases he
  |cons b ms=>
   simp only[Z9j,Bool.and_eq_true]at hf;obtain⟨⟨⟨h1,h2⟩,h3⟩,h4⟩:=hf;have h2:f.offset=i:=zu h2
   have h1:f.name ≠ "_" := zu h1
   obtain⟨c,hc,hcr⟩:=hx 0 zS;obtain⟨c',hc',hcr'⟩:=hy 0 zS;simp only[Nat.add_zero]at hc hc';have hcr:Rel X c a:=hcr;have hcr':Rel X c' b:=hcr';simp only[Zkt]at he;have p1:=Zna (X:=X) w h3 hc;have p2:=Zna (X:=X) (t:=f.type) (v:=a) w h3 hc';simp only[Op.eqFields,if_pos h1,Sem.run_bind,h2,p1,p2,Result.andThen_ok]
   cases hq:eqC a b with
   |none=>rw[hq]at he;cases he
   |some q=>
    rw[hq]at he;rw[Zeaa d w h3 hcr hcr' hq]
    cases q with
    |false=>cases he;simp
    |true=>
     simp only[Result.andThen_ok,Bool.not_true,Bool.false_eq_true,if_false];refine Dg (X:=X) d w fs (i+1) ls ms r h4 he ?_ ?_;intro j hj;obtain⟨c,h5,h6⟩:=hx (j+1) (zu hj);exact⟨c,by rw[<- h5];congr 1;omega,h6⟩;intro j hj;obtain⟨c,h5,h6⟩:=hy (j+1) (zu hj);exact⟨c,by rw[<- h5];congr 1;omega,h6⟩
def eqA(P:Program)(t:TypeId)(ls ms:List V):Option Bool:=match P.underlying t with
 |some (.struct fs)=>if P.stoodInHeld t=false/\P.eqGuardType P.depth t=false/\Z9j P 0 fs.toList ls=true then Zkt ls ms else none
 |_=>none
theorem Ziy{op:BinOp}{t:TypeId}{e d:List V}{x y:Value}{r:Bool}(c b:Operand)(g:op=.eql\/op=.neq)(m:Rel X x (.agg e))(l:Rel X y (.agg d))(h:eqA P t e d=some r):
  (do eqGuard op t c b x y;binOp op t x y:Sem Value).run P w=.ok (.bool (if op=.eql then r else !r)) w:=by
 unfold eqA at h
 split at h
 rename_i p n
 have o:P.underlying t=some (.struct (P.fieldsOf t)):=by
  unfold Program.fieldsOf;rw[n]
 have i:p=P.fieldsOf t:=by grind
 split at h
 .rename_i hc
  obtain⟨f,j,k⟩:=hc;rw[i]at k
  cases m with
  |agg xs _ hsx _ hrx=>
   cases l with
   |agg ys _ hsy _ hry=>
    have a:(Op.equalIn 10000 t (.agg xs) (.agg ys)).run P w=.ok r w:=by
     rw[run_equalIn_agg w 9999 t xs ys o f];refine Dg (X:=X) 9998 w _ 0 e d r k h ?_ ?_
     grind
     grind
    rcases g with rfl|rfl
    simp only[Sem.run_bind,run_eqGuard_agg w _ t c b xs ys j,Result.andThen_ok,run_eql_struct,a,if_true];simp only[Sem.run_bind,run_eqGuard_agg w _ t c b xs ys j,Result.andThen_ok,run_neq_struct,a];rfl
 cases h;cases h
def Un(P:Program)(op:BinOp)(t:TypeId)(a b:V):Option V:=
 match a,b with
 |.int k x,.int k' y=>
  if op=.shl\/op=.shr then Z5q op k x y
  else if k=k' then intV op k x y else none
 |.str x,.str y=>Zoq op x y
 |.agg ls,.agg ms=>match op with
  |.eql=>(eqA P t ls ms).map .bool
  |.neq=>(eqA P t ls ms).map λr=>.bool (!r)
  |_=>none
 |a,b=>
  match op with
  |.eql=>(eqV P t a b).map .bool
  |.neq=>(eqV P t a b).map λr=>.bool (!r)
  |_=>none
theorem Zv8{op:BinOp}{t:TypeId}{a b:V}{x y:Value}{v:V}(g f:Operand)(j:Rel X x a)(i:Rel X y b)(h:Un P op t a b=some v):
  ∃ c,(do eqGuard op t g f x y;binOp op t x y:Sem Value).run P w=.ok c w/\Rel X c v:=by
 unfold Un at h
 split at h
 rename_i k p k' q;cases j;cases i;have n:=R2 (P:=P) (w:=w) op t g f (.int k p) (.int k' q) zS zS
 split at h
 rename_i d;obtain⟨c,m,l⟩:=Zkz (P:=P) (X:=X) (w:=w) (t:=t) (k':=k') d h;exact⟨c,by simp_all,l⟩;rename_i d
 split at h
 rename_i o;subst o;obtain⟨c,m,l⟩:=Zcaa (P:=P) (X:=X) (w:=w) (t:=t) (λe=>d (.inl e)) (λe=>d (.inr e)) h;exact⟨c,by simp_all,l⟩
 grind
 obtain⟨s,rfl,rfl⟩:=j.str_inv;obtain⟨r,rfl,rfl⟩:=i.str_inv;have n:=R2 (P:=P) (w:=w) op t g f (.string s) (.string r) zS zS;obtain⟨c,m,l⟩:=Zbaa (P:=P) (X:=X) (w:=w) (t:=t) h;exact⟨c,by simp[n,m],l⟩
 split at h
 simp only[Option.map_eq_some_iff]at h;obtain⟨r,h,rfl⟩:=h;exact⟨_,Ziy g f (.inl rfl) j i h,by simpa using Rel.bool r⟩;simp only[Option.map_eq_some_iff]at h;obtain⟨r,h,rfl⟩:=h;exact⟨_,Ziy g f (.inr rfl) j i h,by simpa using Rel.bool (!r)⟩;simp at h
 split at h
 simp only[Option.map_eq_some_iff]at h;obtain⟨r,h,rfl⟩:=h;have:=Zhy (w:=w) j i h g f .eql (.inl rfl);exact⟨_,this,by simpa using Rel.bool r⟩;simp only[Option.map_eq_some_iff]at h;obtain⟨r,h,rfl⟩:=h;have:=Zhy (w:=w) j i h g f .neq (.inr rfl);exact⟨_,this,by simpa using Rel.bool (!r)⟩;simp at h
def unV(op:UnOp)(a:V):Option V:=
 match op,a with
 |.neg,.int k n=>some (.int k (k.wrap (0-n)))
 |.xor,.int k n=>some (.int k (k.wrap (BitVec.ofInt k.bits (if k.signed then -1 else k.max) ^^^ BitVec.ofInt k.bits n).toNat))
 |.not,.bool b=>some (.bool !b)
 |_,_=>none
theorem Zx9{op:UnOp}{a v:V}{x:Value}(b:Rel X x a)(h:unV op a=some v):∃ c,(Op.unary op x).run P w=.ok c w/\Rel X c v:=by
 unfold unV at h
 split at h<;>simp only[Option.some.injEq,reduceCtorEq]at h<;>subst h<;>cases b
 iterate 2 (· exact⟨_,rfl,.int _ _⟩)
 exact⟨_,rfl,.bool _⟩
def Bk(P:Program)(src dst:TypeId)(a:V):Option V:=
 match P.underlying src,P.underlying dst,a with
 |some _,some (.int k),.int _ n=>some (.int k (k.wrap n))
 |some _,some .string,.str s=>some (.str s)
 |_,_,_=>none
theorem Z01{b dst:TypeId}{a v:V}{x:Value}(i:Rel X x a)(h:Bk P b dst a=some v):∃ c,(convert b dst x).run P w=.ok c w/\Rel X c v:=by
 unfold Bk at h
 cases d:P.underlying b with
 |none=>simp[d]at h
 |some d1=>
  cases e:P.underlying dst with
  |none=>simp[d,e]at h
  |some d2=>
   rw[d,e]at h;have g:=Zk (w:=w) d;have f:=Zk (w:=w) e
   split at h<;>simp at h<;>subst h<;>rename_i l j
   rename_i k k' n;cases j;cases i;exact⟨.int k (k.wrap n),by simp only[convert,Sem.run_bind,g,f,Result.andThen_ok];cases d1<;>rfl,.int _ _⟩;cases j;obtain⟨s,rfl,rfl⟩:=i.str_inv;exact⟨.string s,by simp only[convert,Sem.run_bind,g,f,Result.andThen_ok];cases d1<;>rfl,.str _ _ rfl⟩
end
end Go.Hs
