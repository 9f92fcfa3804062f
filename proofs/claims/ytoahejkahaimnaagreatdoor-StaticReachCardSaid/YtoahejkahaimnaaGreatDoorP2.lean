/- A part. No condition. -/
import Derived.Test.YtoahejkahaimnaaGreatDoorP1
import Derived.Laws.Strings
import Derived.Laws.StructEq
import Derived.Laws.Cells
set_option linter.all false
namespace Go.Hs
section
def Z4j:Value->Option V
 |.bool b=>some (.bool b)
 |.int k n=>some (.int k n)
 |.string s=>some (.str s.data.toList)
 |.pointer none=>some .nilp
 |.slice none 0 0=>some .nils
 |.map none=>some .nilm
 |.nilFunc=>some .nilf
 |.nilIface=>some .nili
 |.func fn xs ys=>if xs.size=0/\ys.size=0 then some (.func fn [] [])else none
 |_=>none
def Z3q:List Value->Option (List V)
 |[]=>some []
 |x::r=>match Z4j x,Z3q r with
  |some v,some l=>some (v::l)
  |_,_=>none
def Zc0:Value->Option V
 |.agg xs=>(Z3q xs.toList).map .agg
 |.tuple xs=>if xs.size=0 then some (.tuple [])else none
 |v=>Z4j v
theorem Zvq(X:Cx){x:Value}{v:V}(h:Z4j x=some v):Rel X x v/\x.oneCell'=true:=by
 cases x<;>(try simp only[Z4j,Option.some.injEq,reduceCtorEq]at h)
 case bool b=>subst h;exact⟨.bool b,rfl⟩
 case int k n=>subst h;exact⟨.int k n,rfl⟩
 case string s=>subst h;exact⟨.str s _ rfl,rfl⟩
 case pointer a=>cases a<;>simp at h;subst h;exact⟨.nilp,rfl⟩
 case slice a l c=>
  cases a with
  |some a=>simp[Z4j]at h
  |none=>
   cases l with
   |succ l=>simp[Z4j]at h
   |zero=>
    cases c with
    |succ c=>simp[Z4j]at h
    |zero=>simp[Z4j]at h;subst h;exact⟨.nils,rfl⟩
 case map r=>cases r<;>simp at h;subst h;exact⟨.nilm,rfl⟩
 case nilFunc=>subst h;exact⟨.nilf,rfl⟩
 case nilIface=>subst h;exact⟨.nili,rfl⟩
 case func fn xs ys=>
  split at h
  rename_i hs;simp at h;subst h;exact⟨.func fn xs ys [] [] hs.1 hs.2 (λi h1 h2=>by simp at h2) (λi h1 h2=>by simp at h2),rfl⟩;simp at h
theorem Zuq(X:Cx):∀ {xs:List Value} {l:List V},Z3q xs=some l->xs.length=l.length/\(∀ x∈xs,x.oneCell'=true)/\∀ i (h1:i<xs.length) (h2:i<l.length),Rel X xs[i] l[i]
 |[],l,h=>by simp[Z3q]at h;subst h;simp
 |x::r,l,h=>by
  simp only[Z3q]at h
  cases h1:Z4j x with
  |none=>rw[h1]at h;simp at h
  |some v=>
   cases h2:Z3q r with
   |none=>rw[h1,h2]at h;simp at h
   |some m=>
    rw[h1,h2]at h;simp at h;subst h;obtain⟨a,b,c⟩:=Zuq X h2;obtain⟨d,e⟩:=Zvq X h1;refine⟨by simp[a],?_,?_⟩
    .intro y hy
     cases hy with
     |head=>exact e
     |tail _ hy=>exact b y hy
    .intro i hi1 hi2
     cases i with
     |zero=>exact d
     |succ i=>exact c i (zu hi1) (zu hi2)
theorem Zrn(X:Cx){x:Value}{v:V}(h:Zc0 x=some v):Rel X x v:=by
 cases x
 case agg xs=>
  simp only[Zc0,Option.map_eq_some_iff]at h;obtain⟨l,h1,h2⟩:=h;subst h2;obtain⟨a,b,c⟩:=Zuq X h1;exact .agg xs l (zu a) (zu b) (λi h1 h2=>by have:=c i (zu h1) h2;rwa [Array.getElem_toList]at this)
 case tuple xs=>
  simp only[Zc0]at h
  split at h
  rename_i hs;simp at h;subst h;exact .tuple xs [] hs (λi h1 h2=>by simp at h2);simp at h
 all_goals(simp only[Zc0]at h;exact(Zvq X h).1)
def Zof(P:Program)(t:TypeId):Option Bool:=
 match P.underlying t with
 |some (.struct _)|some (.array _ _)=>some true
 |some _=>some false
 |none=>none
def Z9a(P:Program)(t:TypeId):Option Nat:=(P.info? t).map (·.size)
variable{P:Program}{X:Cx}{w:World}
theorem Zd{t:TypeId}{d:TypeDesc}(h:P.underlying t=some d):(underlying t).run P w=.ok d w:=by simp[underlying,h]
theorem Zda{t:TypeId}{n:Nat}(h:Z9a P t=some n):(sizeOf t).run P w=.ok n w:=by
 unfold Z9a at h
 cases hi:P.info? t with
 |none=>simp[hi]at h
 |some i=>simp[hi]at h;simp[sizeOf,typeInfo,hi,h]
theorem Z5f{t:TypeId}{b:Bool}(h:Zof P t=some b):(isAgg t).run P w=.ok b w:=by
 unfold Zof at h;unfold isAgg
 cases hu:P.underlying t with
 |none=>simp[hu]at h
 |some d=>simp only[hu]at h;simp only[Sem.run_bind,Zd hu,Result.andThen_ok];cases d<;>simp_all
def Zzj(P:Program)(t:TypeId)(cs:List V)(off:Nat):Option V:=
 match Zof P t,Z9a P t with
 |some true,some n=>if off+n<=cs.length then some (.agg ((cs.drop off).take n))else none
 |some false,some 1=>cs[off]?
 |_,_=>none
theorem Z7z{t:TypeId}{cs:List V}{off:Nat}{v:V}{n:Nat}(h:Zzj P t cs off=some v)(hn:Z9a P t=some n)(hcs:∀ x∈cs,x.cells=[x]):
  off+n<=cs.length/\v.cells=(cs.drop off).take n/\v.cells.length=n:=by
 unfold Zzj at h;rw[hn]at h
 cases hb:Zof P t with
 |none=>simp[hb]at h
 |some b=>
  cases b with
  |true=>
   simp only[hb]at h
   split at h
   simp at h;subst h;rename_i hle;simp[V.cells];omega;simp at h
  |false=>
   simp only[hb]at h
   split at h<;>simp_all
   rename_i hn1;subst hn1;rw[List.getElem?_eq_some_iff]at h;obtain⟨hlt,rfl⟩:=h;have:=hcs _ (List.getElem_mem hlt);rw[this];refine⟨hlt,?_,rfl⟩;rw[List.take_one];simp[hlt]
def intV(op:BinOp)(k:IntKind)(a b:Int):Option V:=
 match op with
 |.add=>some (.int k (k.wrap (a+b)))
 |.sub=>some (.int k (k.wrap (a-b)))
 |.mul=>some (.int k (k.wrap (a*b)))
 |.quo=>if b=0 then none else some (.int k (k.wrap (a.tdiv b)))
 |.rem=>if b=0 then none else some (.int k (a.tmod b))
 |.and=>some (.int k (k.wrap (BitVec.ofInt k.bits a &&& BitVec.ofInt k.bits b).toNat))
 |.or=>some (.int k (k.wrap (BitVec.ofInt k.bits a ||| BitVec.ofInt k.bits b).toNat))
 |.xor=>some (.int k (k.wrap (BitVec.ofInt k.bits a ^^^ BitVec.ofInt k.bits b).toNat))
 |.andNot=>some (.int k (k.wrap (BitVec.ofInt k.bits a &&& ~~~(BitVec.ofInt k.bits b)).toNat))
 |.eql=>some (.bool (a==b))
 |.neq=>some (.bool (a != b))
 |.lss=>some (.bool (a<b))
 |.leq=>some (.bool (a<=b))
 |.gtr=>some (.bool (a>b))
 |.geq=>some (.bool (a>=b))
 |.shl|.shr=>none
def Zlea(op:BinOp)(k:IntKind)(a b:Int):Option V:=
 if b<0 then none else
 match op with
 |.shl=>some (.int k (k.wrap (a*2^(min b.toNat k.bits))))
 |.shr=>some (.int k (a.fdiv (2^(min b.toNat k.bits))))
 |_=>none
def strV(op:BinOp)(a b:List UInt8):Option V:=
 match op with
 |.add=>if((a.length+b.length:Nat):Int)>IntKind.i64.max then none else some (.str (a++b))
 |.eql=>some (.bool (a==b))
 |.neq=>some (.bool (!(a==b)))
 |.lss=>some (.bool (Op.bytesLess a b))
 |.leq=>some (.bool (Op.bytesLess a b||a==b))
 |.gtr=>some (.bool (!(Op.bytesLess a b||a==b)))
 |.geq=>some (.bool (!(Op.bytesLess a b)))
 |_=>none
def nilB(P:Program)(t:TypeId)(a:V):Option Bool:=
 match P.underlying t,a with
 |some (.pointer _),.nilp=>some true
 |some (.pointer _),.view _ _=>some false
 |some (.pointer _),.ptr _ _ _=>some false
 |some (.slice _),.nils=>some true
 |some (.slice _),.slice _ _ _ _=>some false
 |some (.slice _),.msl _ _ _ _ _=>some false
 |some (.func _ _ _),.nilf=>some true
 |some (.func _ _ _),.func _ _ _=>some false
 |some (.interface _),.iface _ _=>some false
 |some (.map _ _),.nilm=>some true
 |_,_=>none
theorem Zaf(op:BinOp)(t:TypeId)(x y:Operand)(a b:Value)(h:¬ (a=.nilIface/\b=.nilIface))(h2:¬ ((∃ l,a=.agg l)/\∃ l,b=.agg l)):(eqGuard op t x y a b).run P w=.ok () w:=by
 unfold eqGuard
 cases a<;>cases b<;>first
  |(exact absurd ⟨rfl,rfl⟩ h)
  |(exact absurd ⟨⟨_,rfl⟩,⟨_,rfl⟩⟩ h2)
  |(cases op<;>simp)
theorem Rel.int_inv{c:Value}{k:IntKind}{n:Int}(h:Rel X c (.int k n)):c=.int k n:=by cases h;rfl
theorem Rel.bool_inv{c:Value}{b:Bool}(h:Rel X c (.bool b)):c=.bool b:=by cases h;rfl
theorem Rel.str_inv{c:Value}{l:List UInt8}(h:Rel X c (.str l)):∃ s,c=.string s/\s.data.toList=l:=by cases h;exact⟨_,rfl,by assumption⟩
theorem Zjia(op:BinOp)(k:IntKind)(a b:Int)(t:TypeId)(h1:op ≠ .shl)(h2:op ≠ .shr):
  binOp op t (.int k a) (.int k b)=match op with
  |.add|.sub|.mul=>Op.intArith op k a b
  |.quo|.rem=>Op.intDiv op k a b
  |.and|.or|.xor|.andNot=>Op.intBits op k a b
  |_=>Op.intCmp op a b:=by
 cases op<;>first|exact absurd rfl h1|exact absurd rfl h2|(simp only[binOp];rw[if_neg zS])
theorem run_int{op:BinOp}{k:IntKind}{a b:Int}{t:TypeId}{v:V}(h1:op ≠ .shl)(h2:op ≠ .shr)(h:intV op k a b=some v):
  ∃ c,(binOp op t (.int k a) (.int k b)).run P w=.ok c w/\Rel X c v:=by
 rw[Zjia op k a b t h1 h2]
 cases op<;>simp only[intV,Option.some.injEq,reduceCtorEq]at h
 case quo=>
  split at h
  simp at h;rename_i hb;simp at h;subst h;exact⟨.int k _,by simp[Op.intDiv,hb],.int _ _⟩
 case rem=>
  split at h
  simp at h;rename_i hb;simp at h;subst h;exact⟨.int k _,by simp[Op.intDiv,hb],.int _ _⟩
 case add=>subst h;exact⟨_,rfl,.int _ _⟩
 case sub=>subst h;exact⟨_,rfl,.int _ _⟩
 case mul=>subst h;exact⟨_,rfl,.int _ _⟩
 case and=>subst h;exact⟨_,rfl,.int _ _⟩
 case or=>subst h;exact⟨_,rfl,.int _ _⟩
 case xor=>subst h;exact⟨_,rfl,.int _ _⟩
 case andNot=>subst h;exact⟨_,rfl,.int _ _⟩
 all_goals(subst h;exact⟨_,rfl,.bool _⟩)
theorem Zqea{op:BinOp}{k k':IntKind}{a b:Int}{t:TypeId}{v:V}(hop:op=.shl\/op=.shr)(h:Zlea op k a b=some v):
  ∃ c,(binOp op t (.int k a) (.int k' b)).run P w=.ok c w/\Rel X c v:=by
 unfold Zlea at h
 by_cases hb:b<0
 simp[hb]at h;simp only[hb,if_false]at h
 rcases hop with rfl|rfl<;>(simp only[Option.some.injEq]at h;subst h;exact⟨.int k _,by simp only[binOp,Op.shift,hb,if_false];rfl,.int _ _⟩)
theorem run_str{op:BinOp}{s r:ByteArray}{t:TypeId}{v:V}(h:strV op s.data.toList r.data.toList=some v):
  ∃ c,(binOp op t (.string s) (.string r)).run P w=.ok c w/\Rel X c v:=by
 have hs:s.toList=s.data.toList:=ByteArray.toList_eq s;have hr:r.toList=r.data.toList:=ByteArray.toList_eq r
 cases op<;>simp only[strV,reduceCtorEq,Option.some.injEq]at h
 case add=>
  split at h
  simp at h;rename_i hb;simp at h;subst h;refine⟨.string (s++r),?_,.str _ _ zS⟩;simp only[binOp,Op.stringOp];have e1:s.size=s.data.toList.length:=(Array.length_toList (xs:=s.data)).symm;have e2:r.size=r.data.toList.length:=(Array.length_toList (xs:=r.data)).symm;rw[if_neg (by rw[e1,e2];exact hb)];rfl
 all_goals(subst h;refine⟨.bool _,?_,.bool _⟩;simp only[binOp,Op.stringOp,hs,hr];rfl)
def Zki(P:Program)(t:TypeId)(b:V):Bool:=
 match P.underlying t,b with
 |some (.pointer _),.nilp|some (.slice _),.nils|some (.func _ _ _),.nilf|some (.interface _),.nili|some (.map _ _),.nilm=>true
 |_,_=>false
theorem Zsfa{t:TypeId}{a b:V}{x y:Value}{r:Bool}(d:Nat)(hx:Rel X x a)(hy:Rel X y b)(hs:Zki P t b=true)(h:nilB P t a=some r):
  (Op.equalIn (d+1) t x y).run P w=.ok r w/\(Op.equalIn (d+1) t y x).run P w=.ok r w:=by
 unfold nilB at h;unfold Zki at hs
 cases hu:P.underlying t with
 |none=>simp[hu]at h
 |some k=>
  have hrun:=Zd (w:=w) hu;rw[hu]at hs h
  cases k<;>cases hy<;>simp only[reduceCtorEq]at hs<;>cases hx<;>simp only[Option.some.injEq,reduceCtorEq]at h<;>subst h <;>
   simp only[Op.equalIn,Sem.run_bind,hrun,Result.andThen_ok,Sem.run_pure]<;>first|exact⟨rfl,rfl⟩|exact⟨rfl,trivial⟩|exact⟨trivial,rfl⟩|trivial
theorem Z4q{t:TypeId}{a:V}{x:Value}{r:Bool}(hx:Rel X x a)(h:nilB P t a=some r):
  x ≠ .nilIface/\(∀ l,x ≠ .agg l)/\(∀ k n,x ≠ .int k n)/\(∀ s,x ≠ .string s)/\(∀ k n,x ≠ .float k n)/\(∀ k n m,x ≠ .complex k n m):=by
 unfold nilB at h
 cases hu:P.underlying t with
 |none=>simp[hu]at h
 |some k=>rw[hu]at h;cases k<;>cases hx<;>simp_all
theorem Z4l{t:TypeId}{x y:Value}(hx:(∀ k n,x ≠ .int k n)/\(∀ s,x ≠ .string s)/\(∀ k n,x ≠ .float k n)/\(∀ k n m,x ≠ .complex k n m)):
  binOp .eql t x y=(do pure (.bool (<- Op.equal t x y)))/\binOp .neq t x y=(do pure (.bool (!(<- Op.equal t x y)))):=by
 obtain⟨h1,h2,h3,h4⟩:=hx
 cases x<;>first
  |exact absurd rfl (h1 _ _)
  |exact absurd rfl (h2 _)
  |exact absurd rfl (h3 _ _)
  |exact absurd rfl (h4 _ _ _)
  |(cases y<;>exact⟨rfl,rfl⟩)
theorem Zmt{t:TypeId}{x y:Value}(hx:(∀ k n,y ≠ .int k n)/\(∀ s,y ≠ .string s)/\(∀ k n,y ≠ .float k n)/\(∀ k n m,y ≠ .complex k n m)):
  binOp .eql t x y=(do pure (.bool (<- Op.equal t x y)))/\binOp .neq t x y=(do pure (.bool (!(<- Op.equal t x y)))):=by
 obtain⟨h1,h2,h3,h4⟩:=hx
 cases y<;>first
  |exact absurd rfl (h1 _ _)
  |exact absurd rfl (h2 _)
  |exact absurd rfl (h3 _ _)
  |exact absurd rfl (h4 _ _ _)
  |(cases x<;>exact⟨rfl,rfl⟩)
def eqV(P:Program)(t:TypeId)(a b:V):Option Bool:=
 match a,b with
 |.bool x,.bool y=>if(match P.underlying t with|some .bool=>true|_=>false)then some (x==y)else none
 |_,_=>
  if Zki P t b then nilB P t a
  else if Zki P t a then nilB P t b
  else none
theorem Zoha{t:TypeId}{a b:V}{x y:Value}{r:Bool}(hx:Rel X x a)(hy:Rel X y b)(h:eqV P t a b=some r)(ox oy:Operand)(op:BinOp)(hop:op=.eql\/op=.neq):
  (do eqGuard op t ox oy x y;binOp op t x y:Sem Value).run P w=.ok (.bool (if op=.eql then r else !r)) w:=by
 by_cases hbb:∃ p q,a=.bool p/\b=.bool q
 obtain⟨p,q,rfl,rfl⟩:=hbb;cases hx;cases hy;simp only[eqV]at h
 split at h
 rename_i hu';have hr:=Zd (w:=w) hu';simp at h;subst h
 have he0:∀ d,(Op.equalIn (d+1) t (.bool p) (.bool q)).run P w=.ok (p==q) w:=λd=>by
  simp only[Op.equalIn,Sem.run_bind,hr,Result.andThen_ok,Sem.run_pure]
 have he:(Op.equal t (.bool p) (.bool q)).run P w=.ok (p==q) w:=he0 9999;have hg:=Zaf (P:=P) (w:=w) op t ox oy (.bool p) (.bool q) zS zS;have hb':=Z4l (t:=t) (x:=.bool p) (y:=.bool q) zS
 rcases hop with rfl|rfl
 simp only[Sem.run_bind,hg,Result.andThen_ok,hb'.1,he,Sem.run_pure,if_true];simp only[Sem.run_bind,hg,Result.andThen_ok,hb'.2,he,Sem.run_pure];rfl;simp at h
 have h':(if Zki P t b then nilB P t a else if Zki P t a then nilB P t b else none)=some r:=by
  unfold eqV at h
  split at h
  exact absurd ⟨_,_,rfl,rfl⟩ hbb;exact h
 clear h
 by_cases hb:Zki P t b=true
 simp only[hb,if_true]at h';obtain⟨h1,h2,h3,h4,h5,h6⟩:=Z4q hx h';have he:=(Zsfa (w:=w) 9999 hx hy hb h').1;have he':(Op.equal t x y).run P w=.ok r w:=he;have hg:=Zaf (P:=P) (w:=w) op t ox oy x y (λh=>h1 h.1) (λh=>let ⟨⟨l,hl⟩,_⟩:=h;h2 l hl);have hb':=Z4l (t:=t) (x:=x) (y:=y) ⟨h3,h4,h5,h6⟩
 rcases hop with rfl|rfl
 simp[hg,hb'.1,he'];simp[hg,hb'.2,he'];simp only[hb,Bool.false_eq_true,if_false]at h'
 by_cases ha:Zki P t a=true
 simp only[ha,if_true]at h';obtain⟨h1,h2,h3,h4,h5,h6⟩:=Z4q hy h';have he:=(Zsfa (w:=w) 9999 hy hx ha h').2;have he':(Op.equal t x y).run P w=.ok r w:=he;have hg:=Zaf (P:=P) (w:=w) op t ox oy x y (λh=>h1 h.2) (λh=>let ⟨_,⟨l,hl⟩⟩:=h;h2 l hl);have hb':=Zmt (t:=t) (x:=x) (y:=y) ⟨h3,h4,h5,h6⟩
 rcases hop with rfl|rfl
 simp[hg,hb'.1,he'];simp[hg,hb'.2,he'];simp[ha]at h'
def eqC:V->V->Option Bool
 |.int k a,.int k' b=>if k=k' then some (a==b)else none
 |.str a,.str b=>some (a==b)
 |.bool a,.bool b=>some (a==b)
 |_,_=>none
def eqCs:List V->List V->Option Bool
 |[],[]=>some true
 |a::r,b::s=>match eqC a b with
  |some true=>eqCs r s
  |some false=>some false
  |none=>none
 |_,_=>none
def Z9ga(P:Program)(t:TypeId)(v:V):Bool:=match P.underlying t,v with
 |some (.int _),.int _ _=>true
 |some .string,.str _=>true
 |some .bool,.bool _=>true
 |_,_=>false
def Z8ga(P:Program):Nat->List Field->List V->Bool
 |_,[],[]=>true
 | i,f::r,v::s=>f.name != "_" && f.offset==i && Z9ga P f.type v && Z8ga P (i+1) r s
 |_,_,_=>false
theorem Zpu{X:Cx}{t:TypeId}{v:V}{off:Nat}{xs:Array Value}{c:Value}(w:World)(hf:Z9ga P t v=true)(hx:xs[off]?=some c):(part t xs off).run P w=.ok c w:=by
 unfold Z9ga at hf
 cases hu:P.underlying t with
 |none=>simp[hu]at hf
 |some d=>cases d<;>simp[hu]at hf<;>simp[part,isAgg,Zd hu,hx]
theorem run_eqC{X:Cx}{t:TypeId}{a b:V}{x y:Value}{r:Bool}(d:Nat)(w:World)(hf:Z9ga P t a=true)(hx:Rel X x a)(hy:Rel X y b)(h:eqC a b=some r):(Op.equalIn (d+1) t x y).run P w=.ok r w:=by
 unfold Z9ga at hf
 cases a<;>cases b<;>simp only[eqC,reduceCtorEq]at h
 case int.int k p k' q=>
  split at h
  .rename_i hk
   subst hk;cases hx;cases hy
   cases hu:P.underlying t with
   |none=>simp[hu]at hf
   |some u=>
    cases u<;>simp[hu]at hf
    rw[run_equalIn_int w d t k _ p q hu];cases h;rfl
  cases h
 case str.str p q=>
  cases hx with
  |str s _ hs=>
   cases hy with
   |str s' _ hs'=>
    cases hu:P.underlying t with
    |none=>simp[hu]at hf
    |some u=>
     cases u<;>simp[hu]at hf
     rw[run_equalIn_string w d t s s' hu,ByteArray.toList_eq,ByteArray.toList_eq]
     show Result.ok (s.data.toList==s'.data.toList) w=_
     rw[hs,hs'];cases h;rfl
 case bool.bool p q=>
  cases hx;cases hy
  cases hu:P.underlying t with
  |none=>simp[hu]at hf
  |some u=>
   cases u<;>simp[hu]at hf
   rw[run_equalIn_bool' w d t p q hu];cases h;rfl
theorem Z9r{X:Cx}{xs ys:Array Value}(d:Nat)(w:World):∀ (fs:List Field) (i:Nat) (ls ms:List V) (r:Bool),Z8ga P i fs ls=true->eqCs ls ms=some r ->
  (∀ j (h:j<ls.length),∃ c,xs[i+j]?=some c/\Rel X c ls[j])->(∀ j (h:j<ms.length),∃ c,ys[i+j]?=some c/\Rel X c ms[j])->(Op.eqFields (d+1) xs ys fs).run P w=.ok r w
 |[],i,[],ms,r,hf,he,_,_=>by
  cases ms with
  |nil=>cases he;rfl
  |cons=>cases he
 |[],i,_::_,_,_,hf,_,_,_=>by cases hf
 |f::fs,i,[],_,_,hf,_,_,_=>by cases hf
 |f::fs,i,a::ls,ms,r,hf,he,hx,hy=>by
  cases ms with
  |nil=>cases he
  |cons b ms=>
   simp only[Z8ga,Bool.and_eq_true]at hf;obtain⟨⟨⟨h1,h2⟩,h3⟩,h4⟩:=hf;have h2:f.offset=i:=zu h2
   have h1:f.name ≠ "_" := zu h1
   obtain⟨c,hc,hcr⟩:=hx 0 zS;obtain⟨c',hc',hcr'⟩:=hy 0 zS;simp only[Nat.add_zero]at hc hc';have hcr:Rel X c a:=hcr;have hcr':Rel X c' b:=hcr';simp only[eqCs]at he;have p1:=Zpu (X:=X) w h3 hc;have p2:=Zpu (X:=X) (t:=f.type) (v:=a) w h3 hc';simp only[Op.eqFields,if_pos h1,Sem.run_bind,h2,p1,p2,Result.andThen_ok]
   cases hq:eqC a b with
   |none=>rw[hq]at he;cases he
   |some q=>
    rw[hq]at he;rw[run_eqC d w h3 hcr hcr' hq]
    cases q with
    |false=>cases he;simp
    |true=>
     simp only[Result.andThen_ok,Bool.not_true,Bool.false_eq_true,if_false];refine Z9r (X:=X) d w fs (i+1) ls ms r h4 he ?_ ?_;intro j hj;obtain⟨c,h5,h6⟩:=hx (j+1) (zu hj);exact⟨c,by rw[<- h5];congr 1;omega,h6⟩;intro j hj;obtain⟨c,h5,h6⟩:=hy (j+1) (zu hj);exact⟨c,by rw[<- h5];congr 1;omega,h6⟩
def eqA(P:Program)(t:TypeId)(ls ms:List V):Option Bool:=match P.underlying t with
 |some (.struct fs)=>if P.stoodInHeld t=false/\P.eqGuardType P.depth t=false/\Z8ga P 0 fs.toList ls=true then eqCs ls ms else none
 |_=>none
theorem Zqha{op:BinOp}{t:TypeId}{ls ms:List V}{x y:Value}{r:Bool}(ox oy:Operand)(hop:op=.eql\/op=.neq)(hx:Rel X x (.agg ls))(hy:Rel X y (.agg ms))(h:eqA P t ls ms=some r):
  (do eqGuard op t ox oy x y;binOp op t x y:Sem Value).run P w=.ok (.bool (if op=.eql then r else !r)) w:=by
 unfold eqA at h
 split at h
 rename_i fs hu
 have ht:P.underlying t=some (.struct (P.fieldsOf t)):=by
  rw[hu];unfold Program.fieldsOf;rw[hu]
 have hfs:fs=P.fieldsOf t:=by rw[ht]at hu;cases hu;rfl
 split at h
 .rename_i hc
  obtain⟨hst,hg,hf⟩:=hc;rw[hfs]at hf
  cases hx with
  |agg xs _ hsx _ hrx=>
   cases hy with
   |agg ys _ hsy _ hry=>
    have key:(Op.equalIn 10000 t (.agg xs) (.agg ys)).run P w=.ok r w:=by
     rw[run_equalIn_agg w 9999 t xs ys ht hst];refine Z9r (X:=X) 9998 w _ 0 ls ms r hf h ?_ ?_;intro j hj;exact⟨xs[j]'zo,by rw[Nat.zero_add,Array.getElem?_eq_getElem],hrx j zo hj⟩;intro j hj;exact⟨ys[j]'zo,by rw[Nat.zero_add,Array.getElem?_eq_getElem],hry j zo hj⟩
    rcases hop with rfl|rfl
    simp only[Sem.run_bind,run_eqGuard_agg w _ t ox oy xs ys hg,Result.andThen_ok,run_eql_struct,key,Sem.run_pure,if_true];simp only[Sem.run_bind,run_eqGuard_agg w _ t ox oy xs ys hg,Result.andThen_ok,run_neq_struct,key,Sem.run_pure];rfl
 cases h;cases h
def Zvm(P:Program)(op:BinOp)(t:TypeId)(a b:V):Option V:=
 match a,b with
 |.int k x,.int k' y=>
  if op=.shl\/op=.shr then Zlea op k x y
  else if k=k' then intV op k x y else none
 |.str x,.str y=>strV op x y
 |.agg ls,.agg ms=>match op with
  |.eql=>(eqA P t ls ms).map .bool
  |.neq=>(eqA P t ls ms).map λr=>.bool (!r)
  |_=>none
 |a,b=>
  match op with
  |.eql=>(eqV P t a b).map .bool
  |.neq=>(eqV P t a b).map λr=>.bool (!r)
  |_=>none
theorem Zona{op:BinOp}{t:TypeId}{a b:V}{x y:Value}{v:V}(ox oy:Operand)(hx:Rel X x a)(hy:Rel X y b)(h:Zvm P op t a b=some v):
  ∃ c,(do eqGuard op t ox oy x y;binOp op t x y:Sem Value).run P w=.ok c w/\Rel X c v:=by
 unfold Zvm at h
 split at h
 rename_i k p k' q;cases hx;cases hy;have hg:=Zaf (P:=P) (w:=w) op t ox oy (.int k p) (.int k' q) zS zS
 split at h
 rename_i hop;obtain⟨c,hc,hr⟩:=Zqea (P:=P) (X:=X) (w:=w) (t:=t) (k':=k') hop h;exact⟨c,by simp[hg,hc],hr⟩;rename_i hop
 split at h
 rename_i hk;subst hk;obtain⟨c,hc,hr⟩:=run_int (P:=P) (X:=X) (w:=w) (t:=t) (λe=>hop (.inl e)) (λe=>hop (.inr e)) h;exact⟨c,by simp[hg,hc],hr⟩;simp at h;obtain⟨s,rfl,rfl⟩:=hx.str_inv;obtain⟨r,rfl,rfl⟩:=hy.str_inv;have hg:=Zaf (P:=P) (w:=w) op t ox oy (.string s) (.string r) zS zS;obtain⟨c,hc,hr⟩:=run_str (P:=P) (X:=X) (w:=w) (t:=t) h;exact⟨c,by simp[hg,hc],hr⟩
 split at h
 simp only[Option.map_eq_some_iff]at h;obtain⟨r,h,rfl⟩:=h;exact⟨_,Zqha ox oy (.inl rfl) hx hy h,by simpa using Rel.bool r⟩;simp only[Option.map_eq_some_iff]at h;obtain⟨r,h,rfl⟩:=h;exact⟨_,Zqha ox oy (.inr rfl) hx hy h,by simpa using Rel.bool (!r)⟩;simp at h
 split at h
 simp only[Option.map_eq_some_iff]at h;obtain⟨r,h,rfl⟩:=h;have:=Zoha (w:=w) hx hy h ox oy .eql (.inl rfl);exact⟨_,this,by simpa using Rel.bool r⟩;simp only[Option.map_eq_some_iff]at h;obtain⟨r,h,rfl⟩:=h;have:=Zoha (w:=w) hx hy h ox oy .neq (.inr rfl);exact⟨_,this,by simpa using Rel.bool (!r)⟩;simp at h
def unV(op:UnOp)(a:V):Option V:=
 match op,a with
 |.neg,.int k n=>some (.int k (k.wrap (0-n)))
 |.xor,.int k n=>some (.int k (k.wrap (BitVec.ofInt k.bits (if k.signed then -1 else k.max) ^^^ BitVec.ofInt k.bits n).toNat))
 |.not,.bool b=>some (.bool !b)
 |_,_=>none
theorem unV_run{op:UnOp}{a v:V}{x:Value}(hx:Rel X x a)(h:unV op a=some v):∃ c,(Op.unary op x).run P w=.ok c w/\Rel X c v:=by
 unfold unV at h
 split at h<;>simp only[Option.some.injEq,reduceCtorEq]at h<;>subst h<;>cases hx
 exact⟨_,rfl,.int _ _⟩;exact⟨_,rfl,.int _ _⟩;exact⟨_,rfl,.bool _⟩
def Zx0(P:Program)(src dst:TypeId)(a:V):Option V:=
 match P.underlying src,P.underlying dst,a with
 |some _,some (.int k),.int _ n=>some (.int k (k.wrap n))
 |some _,some .string,.str s=>some (.str s)
 |_,_,_=>none
theorem Zxha{src dst:TypeId}{a v:V}{x:Value}(hx:Rel X x a)(h:Zx0 P src dst a=some v):∃ c,(convert src dst x).run P w=.ok c w/\Rel X c v:=by
 unfold Zx0 at h
 cases h1:P.underlying src with
 |none=>simp[h1]at h
 |some d1=>
  cases h2:P.underlying dst with
  |none=>simp[h1,h2]at h
  |some d2=>
   rw[h1,h2]at h;have r1:=Zd (w:=w) h1;have r2:=Zd (w:=w) h2
   split at h<;>simp at h<;>subst h<;>rename_i e1 e2
   rename_i k k' n;cases e2;cases hx;exact⟨.int k (k.wrap n),by simp only[convert,Sem.run_bind,r1,r2,Result.andThen_ok];cases d1<;>rfl,.int _ _⟩;cases e2;obtain⟨s,rfl,rfl⟩:=hx.str_inv;exact⟨.string s,by simp only[convert,Sem.run_bind,r1,r2,Result.andThen_ok];cases d1<;>rfl,.str _ _ rfl⟩
end
end Go.Hs
