/- A part. No condition. -/
import Derived.Test.YtkennpiglkfalaaGreatDoorP1
import Derived.Laws.Strings
import Derived.Laws.StructEq
import Derived.Laws.Cells
set_option linter.all false
open Bool renaming false->ab,true->ad
open Option renaming some->ae,none->ah
open BitVec renaming ofInt->aw
open Go.ByteArray renaming toList_eq->ax
open Go.Op renaming bytesLess->ay,equal->az,equalIn->aA
open Go.Result renaming andThen_ok->aB
open Go.Sem renaming run_bind->aC,run_pure->aD
namespace Go.Hs
section
def Lj:Value->Option V
 |.bool b=>ae (.bool b)|.int k n=>ae (.int k n)|.string s=>ae (.AB s.data.toList)|.pointer ah=>ae .ET|.slice ah 0 0=>ae .AG|.map ah=>ae .FE|.nilFunc=>ae .CN|.nilIface=>ae .GE|.func fn xs ys=>if xs.size=0/\ys.size=0 then ae (.func fn [] [])else ah|_=>ah
def Dr:List Value->Option (List V)
 |[]=>ae []|x::r=>match Lj x,Dr r with|some v,ae l=>ae (v::l)|_,_=>ah
def OD:Value->Option V
 |.agg xs=>(Dr xs.toList).map .agg|.tuple xs=>if xs.size=0 then ae (.tuple [])else ah|v=>Lj v
def dj(X){x v}(h:Lj x=ae v):AI X x v/\x.oneCell'=ad:=by
 cases x<;>(try simp only[Lj,GI,reduceCtorEq]at h)
 case bool b=>subst h;exact⟨.bool b,rfl⟩
 case int k n=>subst h;exact⟨.int k n,rfl⟩
 case string s=>subst h;exact⟨.AB s _ rfl,rfl⟩
 case pointer a=>cases a<;>simp at h;subst h;exact⟨.ET,rfl⟩
 case slice a l c=>
  rcases a with _|a;rcases l with _|l;rcases c with _|c;simp[Lj]at h;subst h;exact⟨.AG,rfl⟩;simp[Lj]at h;simp[Lj]at h;simp[Lj]at h
 case map r=>cases r<;>simp at h;subst h;exact⟨.FE,rfl⟩
 case nilFunc=>subst h;exact⟨.CN,rfl⟩
 case nilIface=>subst h;exact⟨.GE,rfl⟩
 case func fn xs ys=>
  split at h;rename_i d;simp at h;subst h;exact⟨.func fn xs ys [] [] d.1 d.2 (λi e h2=>by simp at h2) (λi e h2=>by simp at h2),rfl⟩;simp at h
def dV(X):∀ {xs} {l},Dr xs=ae l->xs.length=l.length/\(∀ x∈xs,x.oneCell'=ad)/\∀ i h1 (h2:i<l.length),AI X xs[i] l[i]
 |[],l,h=>by simp[Dr]at h;subst h;simp|x::r,l,h=>by simp only[Dr]at h;rcases h1:Lj x with _|v;grind;rcases h2:Dr r with _|m;grind;rw[h1,h2]at h;simp at h;subst h;obtain⟨a,b,c⟩:=dV X h2;obtain⟨d,e⟩:=dj X h1;grind
def Dg(X){x v}(h:OD x=ae v):AI X x v:=by
 cases x
 case agg xs=>
  simp only[OD,I_]at h;obtain⟨l,d,h2⟩:=h;subst h2;obtain⟨a,b,c⟩:=dV X d;exact .agg xs l zG zG (λi d h2=>by grind)
 case tuple xs=>
  simp only[OD]at h;split at h;rename_i e;simp at h;subst h;exact .tuple xs [] e (λi d h2=>by grind);grind
 all_goals(simp only[OD]at h;exact(dj X h).1)
def R1(P:Program)(t:TypeId):Option Bool:=
 match P.underlying t with|some (.struct _)|some (.array _ _)=>ae ad|some _=>ae ab|none=>ah
def Y0(P:Program)(t:TypeId):Option Nat:=(P.info? t).map (·.size)
variable{P:Program}{X:Cx}{w:World}
def Zt{t d}(h:P.underlying t=ae d):(underlying t).run P w=.ok d w:=by simp[underlying,h]
def Y8{t n}(h:Y0 P t=ae n):(sizeOf t).run P w=.ok n w:=by unfold Y0 at h;rcases a:P.info? t with _|i;grind;simp[a]at h;simp[sizeOf,typeInfo,a,h]
def P6{t b}(h:R1 P t=ae b):(isAgg t).run P w=.ok b w:=by unfold R1 at h;unfold isAgg;rcases a:P.underlying t with _|d;grind;simp only[aC,Zt a];cases d<;>simp_all
def O6(P:Program)(t:TypeId)(cs:List V)(off:Nat):Option V:=
 match R1 P t,Y0 P t with|some ad,ae n=>if off+n<=cs.length then ae (.agg ((cs.drop off).take n))else ah|some ab,ae 1=>cs[off]?|_,_=>ah
def yh{t cs off v n}(h:O6 P t cs off=ae v)(e:Y0 P t=ae n)(c:∀ x∈cs,x.cells=[x]):off+n<=cs.length/\v.cells=(cs.drop off).take n/\v.cells.length=n:=by unfold O6 at h;rw[e]at h;rcases f:R1 P t with _|b;grind;cases b;split at h<;>simp_all;rename_i d;rw[DG]at h;obtain⟨a,rfl⟩:=h;have:=c _ (BT a);rw[this];refine⟨a,?_,rfl⟩;rw[List.take_one];simp[a];simp only[f]at h;split at h;simp at h;subst h;simp[V.cells];omega;grind
def VF(op:BinOp)(k:IntKind)(a b:Int):Option V:=
 match op with|.add=>ae (.int k (k.wrap (a+b)))|.sub=>ae (.int k (k.wrap (a-b)))|.mul=>ae (.int k (k.wrap (a*b)))|.quo=>if b=0 then ah else ae (.int k (k.wrap (a.tdiv b)))|.rem=>if b=0 then ah else ae (.int k (a.tmod b))|.and=>ae (.int k (k.wrap (aw k.bits a &&& aw k.bits b).toNat))|.or=>ae (.int k (k.wrap (aw k.bits a ||| aw k.bits b).toNat))|.xor=>ae (.int k (k.wrap (aw k.bits a ^^^ aw k.bits b).toNat))|.andNot=>ae (.int k (k.wrap (aw k.bits a &&& ~~~(aw k.bits b)).toNat))|.eql=>ae (.bool (a==b))|.neq=>ae (.bool (a != b))|.lss=>ae (.bool (a<b))|.leq=>ae (.bool (a<=b))|.gtr=>ae (.bool (a>b))|.geq=>ae (.bool (a>=b))|.shl|.shr=>ah
def XQ(op:BinOp)(k:IntKind)(a b:Int):Option V:=
 if b<0 then ah else
 match op with|.shl=>ae (.int k (k.wrap (a*2^(min b.toNat k.bits))))|.shr=>ae (.int k (a.fdiv (2^(min b.toNat k.bits))))|_=>ah
def OE(op:BinOp)(a b:bS):Option V:=
 match op with|.add=>if((a.length+b.length:Nat):Int)>IntKind.i64.max then ah else ae (.AB (a++b))|.eql=>ae (.bool (a==b))|.neq=>ae (.bool (!(a==b)))|.lss=>ae (.bool (ay a b))|.leq=>ae (.bool (ay a b||a==b))|.gtr=>ae (.bool (!(ay a b||a==b)))|.geq=>ae (.bool (!(ay a b)))|_=>ah
def KQ(P:Program)(t:TypeId)(a:V):Option Bool:=
 match P.underlying t,a with|some (.pointer _),.ET=>ae ad|some (.pointer _),.view _ _=>ae ab|some (.pointer _),.ptr _ _ _=>ae ab|some (.slice _),.AG=>ae ad|some (.slice _),.slice _ _ _ _=>ae ab|some (.slice _),.A_ _ _ _ _ _=>ae ab|some (.func _ _ _),.CN=>ae ad|some (.func _ _ _),.func _ _ _=>ae ab|some (.interface _),.iface _ _=>ae ab|some (.map _ _),.FE=>ae ad|_,_=>ah
def Pf(op t x y a b)(h:¬(a=.nilIface/\b=.nilIface))(h2:¬((∃ l,a=.agg l)/\∃ l,b=.agg l)):(eqGuard op t x y a b).run P w=.ok () w:=by
 unfold eqGuard;cases a<;>cases b<;>first
  |(exact absurd ID h)|(exact absurd ⟨⟨_,rfl⟩,⟨_,rfl⟩⟩ h2)|(cases op<;>simp)
def AI.int_inv{c k n}(h:AI X c (.int k n)):c=.int k n:=by cases h;rfl
def AI.bool_inv{c b}(h:AI X c (.bool b)):c=.bool b:=by cases h;rfl
def AI.str_inv{c l}(h:AI X c (.AB l)):∃ s,c=.string s/\s.data.toList=l:=by cases h;grind
def tG(op:BinOp)(k a b t)(c:op ≠ .shl)(h2:op ≠ .shr):binOp op t (.int k a) (.int k b)=match op with|.add|.sub|.mul=>Op.intArith op k a b|.quo|.rem=>Op.intDiv op k a b|.and|.or|.xor|.andNot=>Op.intBits op k a b|_=>Op.intCmp op a b:=by cases op<;>first|exact absurd rfl c|exact absurd rfl h2|(simp only[binOp];rw[AA zS])
def om{op k a b t v}(e:op ≠ .shl)(h2:op ≠ .shr)(h:VF op k a b=ae v):∃ c,(binOp op t (.int k a) (.int k b)).run P w=.ok c w/\AI X c v:=by
 rw[tG op k a b t e h2];cases op<;>simp only[VF,GI,reduceCtorEq]at h
 case quo=>
  split at h;grind;rename_i d;simp at h;subst h;exact⟨.int k _,by simp[Op.intDiv,d],.int _ _⟩
 case rem=>
  split at h;simp at h;rename_i d;simp at h;subst h;exact⟨.int k _,by simp[Op.intDiv,d],.int _ _⟩
 case add=>subst h;exact⟨_,rfl,.int _ _⟩
 case sub=>subst h;exact⟨_,rfl,.int _ _⟩
 case mul=>subst h;exact⟨_,rfl,.int _ _⟩
 case and=>subst h;exact⟨_,rfl,.int _ _⟩
 case or=>subst h;exact⟨_,rfl,.int _ _⟩
 case xor=>subst h;exact⟨_,rfl,.int _ _⟩
 case andNot=>subst h;exact⟨_,rfl,.int _ _⟩
 all_goals(subst h;exact⟨_,rfl,.bool _⟩)
def uV{op k k' a b t v}(d:op=.shl\/op=.shr)(h:XQ op k a b=ae v):∃ c,(binOp op t (.int k a) (.int k' b)).run P w=.ok c w/\AI X c v:=by unfold XQ at h;by_cases e:b<0;grind;simp only[e,HD]at h;rcases d with rfl|rfl<;>(simp only[GI]at h;subst h;exact⟨.int k _,by simp only[binOp,Op.shift,e];rfl,.int _ _⟩)
def oL{op s r t v}(h:OE op s.data.toList r.data.toList=ae v):∃ c,(binOp op t (.string s) (.string r)).run P w=.ok c w/\AI X c v:=by
 have a:=ax s;have b:=ax r;cases op<;>simp only[OE,reduceCtorEq,GI]at h
 case add=>
  split at h;grind;rename_i d;simp at h;subst h;refine⟨.string (s++r),?_,.AB _ _ zS⟩;simp only[binOp,Op.stringOp];simp_all
 all_goals(subst h;refine⟨.bool _,?_,.bool _⟩;simp only[binOp,Op.stringOp,a,b];rfl)
def Nm(P:Program)(t:TypeId)(b:V):Bool:=
 match P.underlying t,b with|some (.pointer _),.ET|some (.slice _),.AG|some (.func _ _ _),.CN|some (.interface _),.GE|some (.map _ _),.FE=>ad|_,_=>ab
def iq{t a b x y r}(d)(i:AI X x a)(g:AI X y b)(f:Nm P t b=ad)(h:KQ P t a=ae r):(aA (d+1) t x y).run P w=.ok r w/\(aA (d+1) t y x).run P w=.ok r w:=by
 unfold KQ at h;unfold Nm at f;rcases e:P.underlying t with _|k;simp[e]at h;have c:=Zt (w:=w) e;rw[e]at f h;cases k<;>cases g<;>simp only[reduceCtorEq]at f<;>cases i<;>simp only[GI,reduceCtorEq]at h<;>subst h <;>
  simp only[aA,aC,c,aB,aD]<;>first|exact ID|exact⟨rfl,AJ⟩|exact⟨AJ,rfl⟩|trivial
def kD{t a x r}(c:AI X x a)(h:KQ P t a=ae r):x ≠ .nilIface/\(∀ l,x ≠ .agg l)/\(∀ k n,x ≠ .int k n)/\(∀ s,x ≠ .string s)/\(∀ k n,x ≠ .float k n)/\(∀ k n m,x ≠ .complex k n m):=by unfold KQ at h;rcases b:P.underlying t with _|k;simp[b]at h;rw[b]at h;cases k<;>cases c<;>simp_all
def Et{t x y}(a:(∀ k n,x ≠ .int k n)/\(∀ s,x ≠ .string s)/\(∀ k n,x ≠ .float k n)/\(∀ k n m,x ≠ .complex k n m)):binOp .eql t x y=(do pure (.bool (<- az t x y)))/\binOp .neq t x y=(do pure (.bool (!(<- az t x y)))):=by
 obtain⟨d,h2,c,b⟩:=a;cases x<;>first
  |exact absurd rfl (d _ _)|exact absurd rfl (h2 _)|exact absurd rfl (c _ _)|exact absurd rfl (b _ _ _)|(cases y<;>exact⟨rfl,rfl⟩)
def vu{t x y}(a:(∀ k n,y ≠ .int k n)/\(∀ s,y ≠ .string s)/\(∀ k n,y ≠ .float k n)/\(∀ k n m,y ≠ .complex k n m)):binOp .eql t x y=(do pure (.bool (<- az t x y)))/\binOp .neq t x y=(do pure (.bool (!(<- az t x y)))):=by
 obtain⟨d,h2,c,b⟩:=a;cases y<;>first
  |exact absurd rfl (d _ _)|exact absurd rfl (h2 _)|exact absurd rfl (c _ _)|exact absurd rfl (b _ _ _)|(cases x<;>exact⟨rfl,rfl⟩)
def OI(P:Program)(t:TypeId)(a b:V):Option Bool:=
 match a,b with
 |.bool x,.bool y=>if(match P.underlying t with|some .bool=>ad|_=>ab)then ae (x==y)else ah|_,_=>
  if Nm P t b then KQ P t a
  else if Nm P t a then KQ P t b
  else ah
def fP{t a b x y r}(n:AI X x a)(m:AI X y b)(h:OI P t a b=ae r)(ox oy op)(i:op=.eql\/op=.neq):(do eqGuard op t ox oy x y;binOp op t x y:Sem Value).run P w=.ok (.bool (if op=.eql then r else !r)) w:=by
 by_cases k:∃ p q,a=.bool p/\b=.bool q;obtain⟨p,q,rfl,rfl⟩:=k;cases n;cases m;simp only[OI]at h;split at h;rename_i o;have E:=Zt (w:=w) o;simp at h;subst h;have s:∀ d,(aA (d+1) t (.bool p) (.bool q)).run P w=.ok (p==q) w:=λd=>by simp only[aA,aC,E,aB,aD]
 have j:(az t _ _).run P w=.ok (p==q) w:=s 9999;have f:=Pf (P:=P) (w:=w) op t ox oy (.bool p) (.bool q) zS zS;have c:=Et (t:=t) (x:=.bool p) (y:=.bool q) zS;rcases i with rfl|rfl;simp only[aC,f,aB,c.1,j,aD,EN];simp only[aC,f,aB,c.2,j,aD];rfl;simp at h;have g:(if Nm P t b then KQ P t a else if Nm P t a then KQ P t b else ah)=ae r:=by unfold OI at h;split at h;exact absurd ⟨_,_,rfl,rfl⟩ k;exact h
 clear h;by_cases u:Nm P t b=ad;simp only[u,EN]at g;obtain⟨D,h2,C,B,A,z⟩:=kD n g;have j:=(iq (w:=w) 9999 n m u g).1;have e:(az t x y).run P w=.ok r w:=j;have f:=Pf (P:=P) (w:=w) op t ox oy x y (λh=>D h.1) (λh=>let ⟨⟨l,hl⟩,_⟩:=h;h2 l hl);have c:=Et (t:=t) (x:=x) (y:=y) ⟨C,B,A,z⟩;rcases i with rfl|rfl;simp[f,c.1,e];simp[f,c.2,e];simp only[u,IP,HD]at g;by_cases v:Nm P t a=ad;simp only[v,EN]at g;obtain⟨D,h2,C,B,A,z⟩:=kD m g;have j:=(iq (w:=w) 9999 m n v g).2;have e:(az t x y).run P w=.ok r w:=j;have f:=Pf (P:=P) (w:=w) op t ox oy x y (λh=>D h.2) (λh=>let ⟨_,⟨l,hl⟩⟩:=h;h2 l hl);have c:=vu (t:=t) (x:=x) (y:=y) ⟨C,B,A,z⟩;rcases i with rfl|rfl;simp[f,c.1,e];simp[f,c.2,e];simp[v]at g
def RX:V->V->Option Bool
 |.int k a,.int k' b=>if k=k' then ae (a==b)else ah|.AB a,.AB b=>ae (a==b)|.bool a,.bool b=>ae (a==b)|_,_=>ah
def OB:List V->List V->Option Bool
 |[],[]=>ae ad|a::r,b::s=>match RX a b with|some ad=>OB r s|some ab=>ae ab|none=>ah
 |_,_=>ah
def RT(P:Program)(t:TypeId)(v:V):Bool:=match P.underlying t,v with|some (.int _),.int _ _=>ad|some .string,.AB _=>ad|some .bool,.bool _=>ad|_,_=>ab
def RO(P:Program):Nat->List Field->List V->Bool
 |_,[],[]=>ad| i,f::r,v::s=>f.name != "_" && f.offset==i && RT P f.type v && RO P (i+1) r s|_,_,_=>ab
def fJ{X:Cx}{t v off xs c}(w)(b:RT P t v=ad)(e:xs[off]?=ae c):(part t xs off).run P w=.ok c w:=by unfold RT at b;rcases a:P.underlying t with _|d;grind;cases d<;>simp[a]at b<;>simp[part,isAgg,Zt a,e]
def pb{X t a b x y r}(d w)(e:RT P t a=ad)(g:AI X x a)(f:AI X y b)(h:RX a b=ae r):(aA (d+1) t x y).run P w=.ok r w:=by
 unfold RT at e;cases a<;>cases b<;>simp only[RX,reduceCtorEq]at h
 case int.int k p k' q=>
  split at h
  .rename_i hk;subst hk;cases g;cases f;cases c:P.underlying t with|none=>simp[c]at e|some u=>cases u<;>simp[c]at e;rw[run_equalIn_int w d t k _ p q c];cases h;rfl
  cases h
 case AB.AB p q=>
  cases g with|AB s _ hs=>cases f with|AB s' _ hs'=>cases c:P.underlying t with|none=>simp[c]at e|some u=>cases u<;>simp[c]at e;rw[run_equalIn_string w d t s s' c,ax,ax];show Result.ok _ w=_;rw[hs,hs'];cases h;rfl
 case bool.bool p q=>
  cases g;cases f;cases c:P.underlying t with|none=>simp[c]at e|some u=>cases u<;>simp[c]at e;rw[run_equalIn_bool' w d t p q c];cases h;rfl
def Y_{X xs ys}(d w):∀ fs i ls ms r,RO P i fs ls=ad->OB ls ms=ae r ->
  (∀ j h,∃ c,xs[i+j]?=ae c/\AI X c ls[j])->(∀ j h,∃ c,ys[i+j]?=ae c/\AI X c ms[j])->(Op.eqFields (d+1) xs ys fs).run P w=.ok r w
 |[],i,[],ms,r,hf,he,_,_=>by cases ms;cases he;rfl;cases he
 |[],i,_::_,_,_,hf,_,_,_=>by cases hf|f::fs,i,[],_,_,hf,_,_,_=>by cases hf|f::fs,i,a::ls,ms,r,hf,he,hx,hy=>by rcases ms with _|⟨b,ms⟩;cases he;simp only[RO,BP]at hf;obtain⟨⟨⟨h1,h2⟩,h3⟩,h4⟩:=hf;have h2:f.offset=i:=zu h2;have h1:f.name ≠ "_" := zu h1;obtain⟨c,hc,hcr⟩:=hx 0 zS;obtain⟨c',hc',hcr'⟩:=hy 0 zS;simp only[GN]at hc hc';have hcr:=hcr;have hcr':=hcr';simp only[OB]at he;have p1:=fJ (X:=X) w h3 hc;have p2:=fJ (X:=X) w h3 hc';simp only[Op.eqFields,AF h1,aC,h2,p1,p2,aB];rcases hq:RX a b with _|q;rw[hq]at he;cases he;rw[hq]at he;rw[pb d w h3 hcr hcr' hq];cases q;cases he;simp;simp only[aB,GR,IP,HD];refine Y_ (X:=X) d w fs _ ls ms r h4 he ?_ ?_;intro j hj;obtain⟨c,h5,h6⟩:=hx (j+1) (zu hj);exact⟨c,by rw[<- h5];congr 1;omega,h6⟩;intro j hj;obtain⟨c,h5,h6⟩:=hy (j+1) (zu hj);exact⟨c,by rw[<- h5];congr 1;omega,h6⟩
def VC(P:Program)(t:TypeId)(ls ms:List V):Option Bool:=match P.underlying t with|some (.struct fs)=>if P.stoodInHeld t=ab/\P.eqGuardType P.depth t=ab/\RO P 0 fs.toList ls=ad then OB ls ms else ah|_=>ah
def fY{op t ls ms x y r}(ox oy)(c:op=.eql\/op=.neq)(i:AI X x (.agg ls))(g:AI X y (.agg ms))(h:VC P t ls ms=ae r):(do eqGuard op t ox oy x y;binOp op t x y:Sem Value).run P w=.ok (.bool (if op=.eql then r else !r)) w:=by
 unfold VC at h;split at h;rename_i l j;have k:P.underlying t=ae (.struct (P.fieldsOf t)):=by unfold Program.fieldsOf;rw[j]
 have d:l=P.fieldsOf t:=zG;split at h
 .rename_i hc;obtain⟨b,e,f⟩:=hc;rw[d]at f;cases i with
  |agg xs _ hsx _ hrx=>
   cases g with
   |agg ys _ hsy _ hry=>
    have a:(aA 10000 t (.agg xs) (.agg ys)).run P w=.ok r w:=by rw[run_equalIn_agg w _ t xs ys k b];refine Y_ (X:=X) _ w _ 0 ls ms r f h ?_ ?_;grind;grind
    rcases c with rfl|rfl;simp only[aC,run_eqGuard_agg w _ t ox oy xs ys e,aB,run_eql_struct,a,EN];simp only[aC,run_eqGuard_agg w _ t ox oy xs ys e,aB,run_neq_struct,a];rfl
 cases h;cases h
def Pl(P:Program)(op:BinOp)(t:TypeId)(a b:V):Option V:=
 match a,b with
 |.int k x,.int k' y=>
  if op=.shl\/op=.shr then XQ op k x y
  else if k=k' then VF op k x y else ah
 |.AB x,.AB y=>OE op x y|.agg ls,.agg ms=>match op with|.eql=>(VC P t ls ms).map .bool|.neq=>(VC P t ls ms).map λr=>.bool (!r)|_=>ah
 |a,b=>match op with|.eql=>(OI P t a b).map .bool|.neq=>(OI P t a b).map λr=>.bool (!r)|_=>ah
def yz{op t a b x y v}(ox oy)(g:AI X x a)(f:AI X y b)(h:Pl P op t a b=ae v):∃ c,(do eqGuard op t ox oy x y;binOp op t x y:Sem Value).run P w=.ok c w/\AI X c v:=by unfold Pl at h;split at h;rename_i k p k' q;cases g;cases f;have l:=Pf (P:=P) (w:=w) op t ox oy (.int k p) (.int k' q) zS zS;split at h;rename_i d;obtain⟨c,j,i⟩:=uV (P:=P) (w:=w) (t:=t) (k':=k') d h;exact⟨c,by simp_all,i⟩;rename_i d;split at h;rename_i m;subst m;obtain⟨c,j,i⟩:=om (P:=P) (w:=w) (t:=t) (λe=>d (.inl e)) (λe=>d (.inr e)) h;exact⟨c,by simp_all,i⟩;grind;obtain⟨s,rfl,rfl⟩:=g.str_inv;obtain⟨r,rfl,rfl⟩:=f.str_inv;have l:=Pf (P:=P) (w:=w) op t ox oy (.string s) (.string r) zS zS;obtain⟨c,j,i⟩:=oL (P:=P) (w:=w) (t:=t) h;exact⟨c,by simp[l,j],i⟩;split at h;simp only[I_]at h;obtain⟨r,h,rfl⟩:=h;exact⟨_,fY ox oy (.inl rfl) g f h,by simpa using AI.bool r⟩;simp only[I_]at h;obtain⟨r,h,rfl⟩:=h;exact⟨_,fY ox oy (.inr rfl) g f h,by simpa using AI.bool _⟩;simp at h;split at h;simp only[I_]at h;obtain⟨r,h,rfl⟩:=h;have:=fP (w:=w) g f h ox oy _ (.inl rfl);exact⟨_,this,by simpa using AI.bool r⟩;simp only[I_]at h;obtain⟨r,h,rfl⟩:=h;have:=fP (w:=w) g f h ox oy _ (.inr rfl);exact⟨_,this,by simpa using AI.bool _⟩;simp at h
def PS(op:UnOp)(a:V):Option V:=
 match op,a with|.neg,.int k n=>ae (.int k (k.wrap (0-n)))|.xor,.int k n=>ae (.int k (k.wrap (aw k.bits (if k.signed then -1 else k.max) ^^^ aw k.bits n).toNat))|.not,.bool b=>ae (.bool !b)|_,_=>ah
def xl{op a v x}(b:AI X x a)(h:PS op a=ae v):∃ c,(Op.unary op x).run P w=.ok c w/\AI X c v:=by
 unfold PS at h;split at h<;>simp only[GI,reduceCtorEq]at h<;>subst h<;>cases b
 iterate 2 (· exact⟨_,rfl,.int _ _⟩)
 exact⟨_,rfl,.bool _⟩
def Bl(P:Program)(IF dst:TypeId)(a:V):Option V:=
 match P.underlying IF,P.underlying dst,a with|some _,ae (.int k),.int _ n=>ae (.int k (k.wrap n))|some _,ae .string,.AB s=>ae (.AB s)|_,_,_=>ah
def nG{IF dst a v x}(f:AI X x a)(h:Bl P IF dst a=ae v):∃ c,(convert IF dst x).run P w=.ok c w/\AI X c v:=by unfold Bl at h;rcases b:P.underlying IF with _|d1;simp[b]at h;rcases h2:P.underlying dst with _|d2;simp[b,h2]at h;rw[b,h2]at h;have e:=Zt (w:=w) b;have d:=Zt (w:=w) h2;split at h<;>simp at h<;>subst h<;>rename_i i g;rename_i k k' n;cases g;cases f;exact⟨.int k _,by simp only[convert,aC,e,d,aB];cases d1<;>rfl,.int _ _⟩;cases g;obtain⟨s,rfl,rfl⟩:=f.str_inv;exact⟨.string s,by simp only[convert,aC,e,d,aB];cases d1<;>rfl,.AB _ _ rfl⟩
