/- A part. No condition. -/
import Derived.Test.YtoahejkahaimnaaGreatDoorP15
import Derived.Attr
set_option linter.all false
namespace Go.Hs
section
variable{P:Program}{E:Ent}
def Zzn{α : Type}(o:Option α)(K : α -> Prop):Prop:=match o with|some v=>K v|none=>False
def Zsg(P:Program)(E:Ent)(ops:Array Oper)(Q:AS->Prop)(rest:List Oper)(d:Option Nat)(τ : Nat->V)(H:Heap)(o:Option V):Prop:=Zzn o λv=>Zsa P E ops Q rest (AS.put ⟨τ,H⟩ d v)
def contH(P:Program)(E:Ent)(ops:Array Oper)(Q:AS->Prop)(rest:List Oper)(d:Option Nat)(τ : Nat->V)(o:Option Heap):Prop:=Zzn o λH=>Zsa P E ops Q rest (AS.put ⟨τ,H⟩ d (.tuple []))
def Zyha(P:Program)(E:Ent)(ops:Array Oper)(Q:AS->Prop)(rest:List Oper)(e:Nat)(τ : Nat->V)(H:Heap)(o:Option (List V)):Prop:=
 Zzn o λcs=>∀ g,Zsa P E ops Q rest ⟨upd τ e (.ptr (E.q+e) g 0),upd H (E.q+e) (.cells .new g 0 cs)⟩
def Zmaa(P:Program)(E:Ent)(ops:Array Oper)(Q:AS->Prop)(rest:List Oper)(e:Nat)(τ : Nat->V)(H:Heap)(o:Option (Nat×Nat×List V)):Prop:=
 Zzn o λc=>∀ g,Zsa P E ops Q rest ⟨upd τ e (.msl (E.q+e) g 0 c.2.1 c.1),upd H (E.q+e) (.cells .new g 0 c.2.2)⟩
theorem Zsda{α : Type}(f:Nat -> α)(k:Nat)(x : α)(n:Nat):upd f k x n=if n=k then x else f n:=rfl
theorem ev_tmp(τ : Nat->V)(H:Heap)(t:Nat):AS.ev E ⟨τ,H⟩ (.tmp t) = τ t:=rfl
theorem ev_int(τ : Nat->V)(H:Heap)(k:IntKind)(n:Int):AS.ev E ⟨τ,H⟩ (.const (.int k n))=.int k n:=rfl
theorem ev_bool(τ : Nat->V)(H:Heap)(b:Bool):AS.ev E ⟨τ,H⟩ (.const (.bool b))=.bool b:=rfl
theorem ev_str(τ : Nat->V)(H:Heap)(s:ByteArray):AS.ev E ⟨τ,H⟩ (.const (.string s))=.str s.data.toList:=rfl
theorem ev_nils(τ : Nat->V)(H:Heap):AS.ev E ⟨τ,H⟩ (.const (.slice none 0 0))=.nils:=rfl
theorem ev_nilp(τ : Nat->V)(H:Heap):AS.ev E ⟨τ,H⟩ (.const (.pointer none))=.nilp:=rfl
theorem ev_nilf(τ : Nat->V)(H:Heap):AS.ev E ⟨τ,H⟩ (.const .nilFunc)=.nilf:=rfl
theorem ev_func(τ : Nat->V)(H:Heap)(f:FuncId):AS.ev E ⟨τ,H⟩ (.func f)=.func (.func f) [] []:=rfl
theorem Zmha(τ : Nat->V)(H:Heap)(g:Nat):AS.ev E ⟨τ,H⟩ (.global g)=E.G g:=rfl
theorem Zmla(τ : Nat->V)(H:Heap)(d:Nat)(v:V):AS.put ⟨τ,H⟩ (some d) v=⟨upd τ d v,H⟩:=rfl
theorem Zola(τ : Nat->V)(H:Heap)(v:V):AS.put ⟨τ,H⟩ none v=⟨τ,H⟩:=rfl
theorem Z0aa(k:Nat)(v:V)(r:List V):Zve k (v::r)=upd (Zve (k+1) r) k v:=rfl
attribute[go_sem]Zsda ev_tmp ev_int ev_bool ev_str ev_nils ev_nilp ev_nilf ev_func Zmha Zmla Zola Z0aa
attribute [go_sem] List.map_cons List.map_nil List.length_cons List.length_nil List.getElem?_cons_zero List.getElem?_cons_succ List.drop_succ_cons List.drop_zero List.take_succ_cons List.take_zero
 List.set_cons_zero List.set_cons_succ List.append_nil List.nil_append List.cons_append Option.map_some Option.map_none Nat.zero_add Nat.add_zero Int.toNat_natCast and_true true_and Bool.not_true Bool.not_false
 and_self Int.natCast_nonneg Bool.false_eq_true Bool.true_eq_false eq_self if_true if_false ne_eq not_true_eq_false not_false_eq_true false_implies true_implies Option.bind_some forall_const
section
variable{ops:Array Oper}{Q:AS->Prop}{rest:List Oper}{τ : Nat->V}{H:Heap}{d:Option Nat}{ty:TypeId}{pos:String}{af:Array Edge}
@[go_sem] theorem Zns(s:AS):Zsa P E ops Q [] s=Q s:=rfl
def Zkh(b:Option Bool)(K0 K1:Prop):Prop:=match b with|some true=>K1|some false=>K0|none=>False
@[congr] theorem Zooa{b b':Option Bool}{K0 K1:Prop}(h:b=b'):Zkh b K0 K1=Zkh b' K0 K1:=by rw[h]
@[go_sem] theorem Z7e(K0 K1:Prop):Zkh (some true) K0 K1=K1:=rfl
@[go_sem] theorem Znoa(K0 K1:Prop):Zkh (some false) K0 K1=K0:=rfl
def Zjo(v:V)(want:Bool):Option Bool:=
 match v with
 |.bool b=>some (b==want)
 |.tuple []=>some false
 |_=>none
theorem Zq0(b:Bool):Zjo (.bool b) true=some b:=by cases b<;>rfl
theorem Zfv(b:Bool):Zjo (.bool b) false=some (!b):=by cases b<;>rfl
theorem Zev(want:Bool):Zjo (.tuple []) want=some false:=rfl
attribute[go_sem]Zq0 Zfv Zev
def Zkj(l:List Oper)(j:Nat):Option Nat:=(l[j]?).bind (·.dst)
@[go_sem] theorem slotAt_zero(o:Oper)(l:List Oper):Zkj (o::l) 0=o.dst:=rfl
@[go_sem] theorem slotAt_succ(o:Oper)(l:List Oper)(j:Nat):Zkj (o::l) (j+1)=Zkj l j:=rfl
def Zyi(v:Option V)(want:Bool):Option Bool:=match v with|some v=>Zjo v want|none=>some false
@[go_sem] theorem Zpoa(v:V)(want:Bool):Zyi (some v) want=Zjo v want:=rfl
theorem Z2j(s:AS)(o:Oper):Zsa P E ops Q (o::rest) s=Zkh (Zz ops s.τ o) (Zsa P E ops Q rest (s.put o.dst (.tuple []))) (Zka P E s o λv H'=>Zsa P E ops Q rest (AS.put { s with H:=H' } o.dst v)):=by
 simp only[Zsa,Zkh]
 cases Zz ops s.τ o with
 |none=>rfl
 |some b=>cases b<;>rfl
@[go_sem] theorem opsA_guard(l:List Oper)(op:Op)(j:Nat)(want:Bool):
  Zsa P E ⟨l⟩ Q (⟨d,op,ty,pos,af,some (j,want)⟩::rest) ⟨τ,H⟩ =
   Zkh (Zyi ((Zkj l j).map τ) want) (Zsa P E ⟨l⟩ Q rest (AS.put ⟨τ,H⟩ d (.tuple []))) (Zsa P E ⟨l⟩ Q (⟨d,op,ty,pos,af,none⟩::rest) ⟨τ,H⟩):=by
 rw[Z2j,Z2j];have e1:Zz ⟨l⟩ τ ⟨d,op,ty,pos,af,none⟩=some true:=rfl
 have e2:Zz ⟨l⟩ τ ⟨d,op,ty,pos,af,some (j,want)⟩=Zyi ((Zkj l j).map τ) want:=by
  unfold Zz Zkj;simp only[List.getElem?_toArray]
  cases(l[j]?).bind (·.dst)with
  |none=>rfl
  |some e=>
   simp only[Option.map_some,Zyi,Zjo];generalize τ e=v
   cases v<;>rfl
 rw[e1,e2];simp only[Z7e];rfl
variable(ops)
theorem Z5b(op:Op)(hs:∀ K,Zka P E ⟨τ,H⟩ ⟨d,op,ty,pos,af,none⟩ K=(match opV P (AS.ev E ⟨τ,H⟩) ⟨d,op,ty,pos,af,none⟩with|some v=>K v H|none=>False)):
  Zsa P E ops Q (⟨d,op,ty,pos,af,none⟩::rest) ⟨τ,H⟩=Zsg P E ops Q rest d τ H (opV P (AS.ev E ⟨τ,H⟩) ⟨d,op,ty,pos,af,none⟩):=by
 rw[Z2j];have e1:Zz ops (⟨τ,H⟩:AS).τ ⟨d,op,ty,pos,af,none⟩=some true:=rfl;rw[e1,Z7e,hs];unfold Zsg Zzn
 cases opV P (AS.ev E ⟨τ,H⟩) ⟨d,op,ty,pos,af,none⟩<;>rfl
@[go_sem] theorem opsA_move(x:Operand):Zsa P E ops Q (⟨d,.move x,ty,pos,af,none⟩::rest) ⟨τ,H⟩=Zsa P E ops Q rest (AS.put ⟨τ,H⟩ d (AS.ev E ⟨τ,H⟩ x)):=Z5b ops _ λ_=>rfl
@[go_sem] theorem opsA_assign(x:Operand):Zsa P E ops Q (⟨d,.assign x,ty,pos,af,none⟩::rest) ⟨τ,H⟩=Zsa P E ops Q rest (AS.put ⟨τ,H⟩ d (AS.ev E ⟨τ,H⟩ x)):=Z5b ops _ λ_=>rfl
def Zsla(c a b:V):Option V:=match c with|.bool true=>some a|.bool false=>some b|_=>none
theorem Zw8(a b:V):Zsla (.bool true) a b=some a:=rfl
theorem Z4z(a b:V):Zsla (.bool false) a b=some b:=rfl
theorem Z5z(c a b:Bool):Zsla (.bool c) (.bool a) (.bool b)=some (.bool (if c then a else b)):=by cases c<;>rfl
theorem Zifa(c a b:Operand):Zsa P E ops Q (⟨d,.pick c a b,ty,pos,af,none⟩::rest) ⟨τ,H⟩ =
  Zsg P E ops Q rest d τ H (Zsla (AS.ev E ⟨τ,H⟩ c) (AS.ev E ⟨τ,H⟩ a) (AS.ev E ⟨τ,H⟩ b)):=Z5b ops _ λ_=>rfl
theorem Z98(op:BinOp)(t:TypeId)(x y:Operand)(u:TypeId):Zsa P E ops Q (⟨d,.binOp op t x y u,ty,pos,af,none⟩::rest) ⟨τ,H⟩ =
  Zsg P E ops Q rest d τ H (Zvm P op t (AS.ev E ⟨τ,H⟩ x) (AS.ev E ⟨τ,H⟩ y)):=Z5b ops _ λ_=>rfl
theorem Zhfa(op:UnOp)(t:TypeId)(x:Operand):Zsa P E ops Q (⟨d,.unOp op t x,ty,pos,af,none⟩::rest) ⟨τ,H⟩ =
  Zsg P E ops Q rest d τ H (unV op (AS.ev E ⟨τ,H⟩ x)):=Z5b ops _ λ_=>rfl
theorem Z0u(t u:TypeId)(x:Operand):Zsa P E ops Q (⟨d,.convert t u x,ty,pos,af,none⟩::rest) ⟨τ,H⟩ =
  Zsg P E ops Q rest d τ H (Zx0 P t u (AS.ev E ⟨τ,H⟩ x)):=Z5b ops _ λ_=>rfl
attribute[go_sem]Zw8 Z4z Z5z Zifa Z98 Zhfa Z0u
def Zw6(t:V)(i:Nat):Option V:=match t with|.tuple vs=>vs[i]? |_=>none
theorem Zeq(vs:List V)(i:Nat):Zw6 (.tuple vs) i=vs[i]? := rfl
theorem Zzu(x:Operand)(i:Nat):Zsa P E ops Q (⟨d,.extract x i,ty,pos,af,none⟩::rest) ⟨τ,H⟩ =
  Zsg P E ops Q rest d τ H (Zw6 (AS.ev E ⟨τ,H⟩ x) i):=Z5b ops _ λ_=>rfl
theorem Z8p(t:TypeId)(x:Operand)(f:Nat):Zsa P E ops Q (⟨d,.fieldAddr t x f,ty,pos,af,none⟩::rest) ⟨τ,H⟩ =
  Zsg P E ops Q rest d τ H (Z2d P t (AS.ev E ⟨τ,H⟩ x) f):=Z5b ops _ λ_=>rfl
theorem Z7p(t:TypeId)(x i:Operand):Zsa P E ops Q (⟨d,.indexAddr t x i,ty,pos,af,none⟩::rest) ⟨τ,H⟩ =
  Zsg P E ops Q rest d τ H (Zyb P t (AS.ev E ⟨τ,H⟩ x) (AS.ev E ⟨τ,H⟩ i)):=Z5b ops _ λ_=>rfl
theorem Z78(t:TypeId)(x i:Operand):Zsa P E ops Q (⟨d,.index t x i,ty,pos,af,none⟩::rest) ⟨τ,H⟩ =
  Zsg P E ops Q rest d τ H (Zih P t (AS.ev E ⟨τ,H⟩ x) (AS.ev E ⟨τ,H⟩ i)):=Z5b ops _ λ_=>rfl
theorem Z68(t:TypeId)(x:Operand)(lo hi mx:Option Operand):Zsa P E ops Q (⟨d,.slice t x lo hi mx,ty,pos,af,none⟩::rest) ⟨τ,H⟩ =
  Zsg P E ops Q rest d τ H (Zge P t (AS.ev E ⟨τ,H⟩ x) (lo.map (AS.ev E ⟨τ,H⟩)) (hi.map (AS.ev E ⟨τ,H⟩)) (mx.map (AS.ev E ⟨τ,H⟩))):=Z5b ops _ λ_=>rfl
theorem Z88(t:TypeId)(l:List (Nat×Operand)):Zsa P E ops Q (⟨d,.build t ⟨l⟩,ty,pos,af,none⟩::rest) ⟨τ,H⟩ =
  Zsg P E ops Q rest d τ H (Zff P t (l.map λp=>(p.1,AS.ev E ⟨τ,H⟩ p.2))):=Z5b ops _ λ_=>rfl
theorem Zos(fn:Fn)(l m:List Operand):Zsa P E ops Q (⟨d,.makeFunc fn ⟨l⟩ ⟨m⟩,ty,pos,af,none⟩::rest) ⟨τ,H⟩ =
  Zsa P E ops Q rest (AS.put ⟨τ,H⟩ d (.func fn (l.map (AS.ev E ⟨τ,H⟩)) (m.map (AS.ev E ⟨τ,H⟩)))):=Z5b ops _ λ_=>rfl
theorem Zama(k k':IntKind)(x y:Int):maxL [.int k x,.int k' y]=some (.int k (if y>x then y else x)):=rfl
theorem Zxla(l:List Operand)(ats:List TypeId):Zsa P E ops Q (⟨d,.call ⟨.builtin .max,⟨l⟩,⟨ats⟩⟩,ty,pos,af,none⟩::rest) ⟨τ,H⟩ =
  Zsg P E ops Q rest d τ H (maxL (l.map (AS.ev E ⟨τ,H⟩))):=Z5b ops _ λ_=>rfl
theorem Zyla(x:Operand)(t:TypeId):Zsa P E ops Q (⟨d,.call ⟨.builtin .len,⟨[x]⟩,⟨[t]⟩⟩,ty,pos,af,none⟩::rest) ⟨τ,H⟩ =
  Zsg P E ops Q rest d τ H (lenV P t (AS.ev E ⟨τ,H⟩ x)):=Z5b ops _ λ_=>rfl
theorem Zms(x:Operand):Zsa P E ops Q (⟨d,.nilCheck x,ty,pos,af,none⟩::rest) ⟨τ,H⟩ =
  Zsg P E ops Q rest d τ H (opV P (AS.ev E ⟨τ,H⟩) ⟨d,.nilCheck x,ty,pos,af,none⟩):=Z5b ops _ λ_=>rfl
attribute[go_sem]Zeq Zzu Z8p Z7p Z78 Z68 Z88 Zos Zama Zxla Zyla Zms
theorem Zeb(op:Op):Zsa P E ops Q (⟨d,op,ty,pos,af,none⟩::rest) ⟨τ,H⟩=Zka P E ⟨τ,H⟩ ⟨d,op,ty,pos,af,none⟩ λv H'=>Zsa P E ops Q rest (AS.put ⟨τ,H'⟩ d v):=by
 rw[Z2j];rfl
@[go_sem] theorem opsA_load(t:TypeId)(x:Operand):Zsa P E ops Q (⟨d,.load t x,ty,pos,af,none⟩::rest) ⟨τ,H⟩ =
  Zsg P E ops Q rest d τ H (Zvb P H t (AS.ev E ⟨τ,H⟩ x)):=by
 rw[Zeb];simp only[Zka,Zsg,Zzn]
 cases Zvb P H t (AS.ev E ⟨τ,H⟩ x)<;>rfl
@[go_sem] theorem opsA_store(t:TypeId)(p x:Operand):Zsa P E ops Q (⟨d,.store t p x,ty,pos,af,none⟩::rest) ⟨τ,H⟩ =
  contH P E ops Q rest d τ (Zsl P H t (AS.ev E ⟨τ,H⟩ p) (AS.ev E ⟨τ,H⟩ x)):=by
 rw[Zeb];simp only[Zka,contH,Zzn]
 cases Zsl P H t (AS.ev E ⟨τ,H⟩ p) (AS.ev E ⟨τ,H⟩ x)<;>rfl
def Zac(P:Program)(t:TypeId):Option (List V):=(Zre P t).bind λz=>if z.solid then some z.cells else none
@[go_sem] theorem opsA_alloc(t:TypeId)(e:Nat):Zsa P E ops Q (⟨some e,.alloc t,ty,pos,af,none⟩::rest) ⟨τ,H⟩ =
  Zyha P E ops Q rest e τ H (Zac P t):=by
 rw[Zeb];simp only[Zka,Zac,Zyha]
 cases Zre P t with
 |none=>rfl
 |some z=>
  simp only[Option.bind_some]
  cases hz:z.solid with
  |false=>simp[Zzn]
  |true=>simp[Zzn,AS.put]
def Ziea(v:V):Option (List V):=if v.solid then some v.cells else none
@[go_sem] theorem opsA_box(t:TypeId)(x:Operand)(e:Nat):Zsa P E ops Q (⟨some e,.box t x,ty,pos,af,none⟩::rest) ⟨τ,H⟩ =
  Zyha P E ops Q rest e τ H (Ziea (AS.ev E ⟨τ,H⟩ x)):=by
 rw[Zeb];simp only[Zka,Ziea,Zyha]
 cases hz:(AS.ev E ⟨τ,H⟩ x).solid with
 |false=>simp[Zzn]
 |true=>simp[Zzn,AS.put]
def Z5o(P:Program)(t:TypeId)(len:Nat)(parts:List (Nat×V)):Option (Nat×Nat×List V):=
 match P.underlying t with
 |some (.slice e)=>match Z9a P e,Zac P e with
  |some E,some z=>if z.length=E/\len*E<=16777216 then(Zsd (λi=>some (i*E,E)) (Z7f len z) parts).map λcs=>(E,len,cs)else none
  |_,_=>none
 |_=>none
@[go_sem] theorem Zjfa(t:TypeId)(len e:Nat)(l:List (Nat×Operand)):Zsa P E ops Q (⟨some e,.buildSlice t len ⟨l⟩,ty,pos,af,none⟩::rest) ⟨τ,H⟩ =
  Zmaa P E ops Q rest e τ H (Z5o P t len (l.map λp=>(p.1,AS.ev E ⟨τ,H⟩ p.2))):=by
 rw[Zeb];simp only[Zka,Zgd,Z5o,Zac,Zmaa]
 cases P.underlying t with
 |none=>rfl
 |some k=>
  cases k<;>try rfl
  rename_i e';simp only
  cases Z9a P e' with
  |none=>rfl
  |some n=>
   cases Zre P e' with
   |none=>rfl
   |some z=>
    simp only[Option.bind_some]
    cases hz:z.solid with
    |false=>simp[Zzn]
    |true=>
     simp only[if_true,true_and]
     by_cases hc:z.cells.length=n/\len*n<=16777216
     .rw[if_pos hc]
      simp only[hc.1,hc.2,true_and]
      cases Zsd (λi=>some (i*n,n)) (Z7f len z.cells) (l.map λp=>(p.1,AS.ev E ⟨τ,H⟩ p.2))with
      |none=>simp[Zzn]
      |some cs=>simp[Zzn,AS.put]
     rw[if_neg hc];simp only[Zzn];rw[<- and_assoc];simp[hc]
def Zvi(P:Program)(t:TypeId)(len cap:V):Option (Nat×Nat×List V):=
 match P.underlying t,len,cap with
 |some (.slice e),.int _ n,.int _ m=>match Z9a P e,Zpi P e,Zac P e with
  |some E,some bytes,some z=>if z.length=E/\0<=n/\n<=m/\m<=4611686018427387904/\bytes*m<=281474976710656 then some (E,n.toNat,Z7f m.toNat z)else none
  |_,_,_=>none
 |_,_,_=>none
@[go_sem] theorem Z2ja(t:TypeId)(x y:Operand)(e:Nat):Zsa P E ops Q (⟨some e,.makeSlice t x y,ty,pos,af,none⟩::rest) ⟨τ,H⟩ =
  Zmaa P E ops Q rest e τ H (Zvi P t (AS.ev E ⟨τ,H⟩ x) (AS.ev E ⟨τ,H⟩ y)):=by
 rw[Zeb];simp only[Zka,Zid,Zvi,Zac,Zmaa];generalize AS.ev E ⟨τ,H⟩ x=v;generalize AS.ev E ⟨τ,H⟩ y=u
 cases P.underlying t with
 |none=>rfl
 |some k=>
  cases k<;>try rfl
  rename_i e'
  cases v<;>try rfl
  cases u<;>try rfl
  rename_i k1 n k2 m;simp only
  cases Z9a P e' with
  |none=>rfl
  |some N=>
   cases Zpi P e' with
   |none=>rfl
   |some B=>
    cases Zre P e' with
    |none=>rfl
    |some z=>
     simp only[Option.bind_some]
     cases hz:z.solid with
     |false=>simp[Zzn]
     |true=>
      simp only[if_true,true_and]
      by_cases hc:z.cells.length=N/\0<=n/\n<=m/\m<=4611686018427387904/\B*m<=281474976710656
      rw[if_pos hc];simp only[hc.1,hc.2.1,hc.2.2.1,hc.2.2.2.1,hc.2.2.2.2,true_and,Zzn,AS.put];rw[if_neg hc];simp only[Zzn];simp only[<- and_assoc]at hc⊢;simp[hc]
def callC(P:Program)(E:Ent)(ops:Array Oper)(Q:AS->Prop)(rest:List Oper)(d:Option Nat)(τ : Nat->V)(H:Heap)(f:V)(args:List V):Prop:=
 match f with
 |.func (.func fid) first cap=>CallP P E.G E.kp fid (first++args++cap) H λv H'=>Zsa P E ops Q rest (AS.put ⟨τ,H'⟩ d v)
 |_=>False
def CallC(P:Program)(E:Ent)(ops:Array Oper)(Q:AS->Prop)(rest:List Oper)(d:Option Nat)(τ : Nat->V)(H:Heap)(fid:FuncId)(args:List V):Prop:=
 match E.kp with
 |none=>CallA P E.G fid args H λv H'=>Zsa P E ops Q rest (AS.put ⟨τ,H'⟩ d v)
 |some k=>CallP P E.G (some k) fid args H λv H'=>Zsa P E ops Q rest (AS.put ⟨τ,H'⟩ d v)
@[go_sem] theorem callC_func(fid:FuncId)(first cap args:List V):callC P E ops Q rest d τ H (.func (.func fid) first cap) args=CallC P E ops Q rest d τ H fid (first++args++cap):=by
 simp only[callC,CallC]
 cases E.kp with
 |none=>exact Zxt
 |some k=>rfl
@[go_sem] theorem opsA_call(f:Operand)(l:List Operand)(ats:Array TypeId):Zsa P E ops Q (⟨d,.call ⟨.value f,⟨l⟩,ats⟩,ty,pos,af,none⟩::rest) ⟨τ,H⟩ =
  callC P E ops Q rest d τ H (AS.ev E ⟨τ,H⟩ f) (l.map (AS.ev E ⟨τ,H⟩)):=by
 rw[Zeb];rfl
def appC(P:Program)(E:Ent)(ops:Array Oper)(Q:AS->Prop)(rest:List Oper)(e:Nat)(τ : Nat->V)(H:Heap)(ats:List TypeId)(a b:V):Prop:=
 Zil P H (E.q+e) ⟨ats⟩ a b λv H'=>Zsa P E ops Q rest (AS.put ⟨τ,H'⟩ (some e) v)
@[go_sem] theorem opsA_append(x y:Operand)(ats:List TypeId)(e:Nat):Zsa P E ops Q (⟨some e,.call ⟨.builtin .append,⟨[x,y]⟩,⟨ats⟩⟩,ty,pos,af,none⟩::rest) ⟨τ,H⟩ =
  appC P E ops Q rest e τ H ats (AS.ev E ⟨τ,H⟩ x) (AS.ev E ⟨τ,H⟩ y):=by
 rw[Zeb];rfl
def appOf(P:Program)(ats:List TypeId):Option (Nat×Nat):=
 match ats with
 |[t0,t1]=>match P.underlying t0,P.underlying t1 with
  |some (.slice _),some (.int _)=>none
  |some (.slice e),some _=>match Z9a P e,Zpi P e,Zac P e with
   |some E,some bytes,some z=>if z.length=E then some (E,bytes)else none
   |_,_,_=>none
  |_,_=>none
 |_=>none
def appE(P:Program)(E:Ent)(ops:Array Oper)(Q:AS->Prop)(rest:List Oper)(e:Nat)(τ : Nat->V)(H:Heap)(m bytes:Nat)(a:V)(src:Option (Nat×List V))(ob:AObj):Prop:=
 match src with
 |none=>False
 |some (n,xc)=>
  match a with
  |.nils=>Zhe bytes n/\(n=0->Zsa P E ops Q rest ⟨upd τ e .nils,H⟩)/\(n≠0->∀ g,Zsa P E ops Q rest ⟨upd τ e (.msl (E.q+e) g 0 n m),upd H (E.q+e) (.cells .new g 0 xc)⟩)
  |.slice c clip m' l=>m'=m/\Zhe bytes (l.length+n)/\(n=0->Zsa P E ops Q rest ⟨upd τ e (.slice c clip m l),H⟩) /\
    (n≠0->clip=true/\∀ g,Zsa P E ops Q rest ⟨upd τ e (.msl (E.q+e) g 0 (l.length+n) m),upd H (E.q+e) (.cells .new g 0 (flat l++xc))⟩)
  |.msl o g off len m'=>m'=m/\Zhe bytes (len+n) /\
   match ob with
   |.cells c g' fz cs=>g=g'/\off+len*m<=cs.length/\fz<=off+len*m /\
     ∀ g2,Zsa P E ops Q rest ⟨upd τ e (.msl o g2 0 (len+n) m),upd H o (.cells c.moved g2 (fz-off) ((cs.drop off).take (len*m)++xc))⟩
   |_=>False
  |_=>False
def obS(H:Heap)(a:V):AObj:=match a with|.msl o _ _ _ _=>H o|_=>.dead
theorem Zrs(H:Heap)(o g off len m:Nat):obS H (.msl o g off len m)=H o:=rfl
theorem Z2la(H:Heap):obS H .nils=.dead:=rfl
theorem Zmfa(H:Heap)(c:Col)(b:Bool)(m:Nat)(l:List V):obS H (.slice c b m l)=.dead:=rfl
attribute[go_sem]Zrs Z2la Zmfa
theorem appC_E{ats:List TypeId}{m bytes:Nat}(h:appOf P ats=some (m,bytes))(e:Nat)(a b:V):appC P E ops Q rest e τ H ats a b=appE P E ops Q rest e τ H m bytes a (Zbd H m b) (obS H a):=by
 unfold appOf at h
 split at h
 case h_2=>simp at h
 rename_i t0 t1
 split at h
 simp at h;rename_i e' bt hne h0 h1
 split at h
 rename_i N B z hs hb hz
 split at h
 .rename_i hzl
  simp at h;obtain⟨rfl,rfl⟩:=h
  have hzv:∃ zv,Zre P e'=some zv/\zv.solid=true/\zv.cells=z:=by
   unfold Zac at hz
   cases hzz:Zre P e' with
   |none=>rw[hzz]at hz;simp at hz
   |some zv=>
    rw[hzz]at hz;simp only[Option.bind_some]at hz
    split at hz
    rename_i h1;simp at hz;exact⟨zv,rfl,h1,hz⟩;simp at hz
  obtain⟨zv,h2,h3,h4⟩:=hzv;unfold appC Zil;simp only[h0,h1]
  have fin:Z9i H (E.q+e) N B a b (λv H'=>Zsa P E ops Q rest (AS.put ⟨τ,H'⟩ (some e) v))=appE P E ops Q rest e τ H N B a (Zbd H N b) (obS H a):=by
   unfold Z9i appE
   cases Zbd H N b with
   |none=>rfl
   |some p=>
    obtain⟨n,xc⟩:=p
    cases a<;>try rfl
    all_goals(rename_i o g off len m';simp only[obS];cases H o<;>rfl)
  rw[<- fin]
  cases bt<;>first|exact absurd rfl (hne _)|simp only[hs,hb,h2,h3,h4,hzl,true_and]
 simp at h;simp at h;simp at h
def srcK(m:Nat)(ob:AObj)(x:V):Option (Nat×List V):=
 match x with
 |.nils=>some (0,[])
 |.slice _ _ E' l=>if E'=m then some (l.length,flat l)else none
 |.msl _ g off len E'=>match ob with
  |.cells _ g' _ cs=>if E'=m/\g=g'/\off+len*m<=cs.length then some (len,(cs.drop off).take (len*m))else none
  |_=>none
 |.str s=>if m=1 then some (s.length,s.map λb=>.int .u8 b.toNat)else none
 |_=>none
theorem Z47(H:Heap)(m:Nat)(x:V):Zbd H m x=srcK m (obS H x) x:=by
 unfold Zbd srcK
 cases x<;>rfl
theorem Z37(m:Nat)(ob:AObj)(c:Col)(b:Bool)(E':Nat)(l:List V):srcK m ob (.slice c b E' l)=if E'=m then some (l.length,flat l)else none:=rfl
theorem Zuka(m:Nat)(o g off len E':Nat)(c:Col)(g' fz:Nat)(cs:List V):srcK m (.cells c g' fz cs) (.msl o g off len E') =
  if E'=m/\g=g'/\off+len*m<=cs.length then some (len,(cs.drop off).take (len*m))else none:=rfl
attribute[go_sem]Z47 Z37 Zuka
theorem Zmk(e m bytes n:Nat)(xc:List V)(ob:AObj):appE P E ops Q rest e τ H m bytes .nils (some (n,xc)) ob =
  (Zhe bytes n/\(n=0->Zsa P E ops Q rest ⟨upd τ e .nils,H⟩)/\(n≠0->∀ g,Zsa P E ops Q rest ⟨upd τ e (.msl (E.q+e) g 0 n m),upd H (E.q+e) (.cells .new g 0 xc)⟩)):=rfl
theorem Zmr(e m bytes n:Nat)(xc:List V)(ob:AObj)(c:Col)(clip:Bool)(m':Nat)(l:List V):appE P E ops Q rest e τ H m bytes (.slice c clip m' l) (some (n,xc)) ob =
  (m'=m/\Zhe bytes (l.length+n)/\(n=0->Zsa P E ops Q rest ⟨upd τ e (.slice c clip m l),H⟩) /\
    (n≠0->clip=true/\∀ g,Zsa P E ops Q rest ⟨upd τ e (.msl (E.q+e) g 0 (l.length+n) m),upd H (E.q+e) (.cells .new g 0 (flat l++xc))⟩)):=rfl
theorem Zwm(e m bytes n:Nat)(xc:List V)(o g off len m':Nat)(c:Col)(g' fz:Nat)(cs:List V):appE P E ops Q rest e τ H m bytes (.msl o g off len m') (some (n,xc)) (.cells c g' fz cs) =
  (m'=m/\Zhe bytes (len+n)/\g=g'/\off+len*m<=cs.length/\fz<=off+len*m /\
     ∀ g2,Zsa P E ops Q rest ⟨upd τ e (.msl o g2 0 (len+n) m),upd H o (.cells c.moved g2 (fz-off) ((cs.drop off).take (len*m)++xc))⟩):=rfl
theorem Zlaa(v:V):Zsg P E ops Q rest d τ H (some v)=Zsa P E ops Q rest (AS.put ⟨τ,H⟩ d v):=rfl
theorem Zoaa(H:Heap):contH P E ops Q rest d τ (some H)=Zsa P E ops Q rest (AS.put ⟨τ,H⟩ d (.tuple [])):=rfl
theorem Znaa(e:Nat)(cs:List V):Zyha P E ops Q rest e τ H (some cs)=∀ g,Zsa P E ops Q rest ⟨upd τ e (.ptr (E.q+e) g 0),upd H (E.q+e) (.cells .new g 0 cs)⟩:=rfl
theorem Zhr(e m len:Nat)(cs:List V):Zmaa P E ops Q rest e τ H (some (m,len,cs))=∀ g,Zsa P E ops Q rest ⟨upd τ e (.msl (E.q+e) g 0 len m),upd H (E.q+e) (.cells .new g 0 cs)⟩:=rfl
attribute[go_sem]Zmr Zwm Zlaa Zoaa Znaa Zhr
end
section
variable(P)(t:TypeId)(k:IntKind)(a b:Int)
theorem Zue(op:BinOp)(h1:op ≠ .shl)(h2:op ≠ .shr):Zvm P op t (.int k a) (.int k b)=intV op k a b:=by
 simp only[Zvm];rw[if_neg (by simp[h1,h2])];simp
theorem Zvna:Zvm P .add t (.int k a) (.int k b)=some (.int k (k.wrap (a+b))):=Zue P t k a b .add zS zS
theorem Zmna:Zvm P .sub t (.int k a) (.int k b)=some (.int k (k.wrap (a-b))):=Zue P t k a b .sub zS zS
theorem Zuna:Zvm P .eql t (.int k a) (.int k b)=some (.bool (a==b)):=Zue P t k a b .eql zS zS
theorem Zpna:Zvm P .neq t (.int k a) (.int k b)=some (.bool (a != b)):=Zue P t k a b .neq zS zS
theorem Zqna:Zvm P .lss t (.int k a) (.int k b)=some (.bool (decide (a<b))):=Zue P t k a b .lss zS zS
theorem Zrna:Zvm P .leq t (.int k a) (.int k b)=some (.bool (decide (a<=b))):=Zue P t k a b .leq zS zS
theorem Zsna:Zvm P .gtr t (.int k a) (.int k b)=some (.bool (decide (a>b))):=Zue P t k a b .gtr zS zS
theorem Ztna:Zvm P .geq t (.int k a) (.int k b)=some (.bool (decide (a>=b))):=Zue P t k a b .geq zS zS
attribute[go_sem]Zvna Zmna Zuna Zpna Zqna Zrna Zsna Ztna
end
theorem Znna(op:BinOp)(t:TypeId)(a b:List UInt8):Zvm P op t (.str a) (.str b)=strV op a b:=rfl
theorem Zpka(a b:List UInt8):strV .eql a b=some (.bool (a==b)):=rfl
theorem Zoka(a b:List UInt8):strV .neq a b=some (.bool (!(a==b))):=rfl
theorem unV_not(b:Bool):unV .not (.bool b)=some (.bool !b):=rfl
attribute[go_sem]Znna Zpka Zoka unV_not
def fldOf(P:Program)(t:TypeId)(f:Nat):Option (Nat×Bool×Nat):=
 match P.underlying t with
 |some (.struct fs)=>match fs[f]? with
  |some fd=>match Zof P fd.type,Z9a P fd.type with
   |some b,some (n+1)=>if b=true\/n=0 then some (fd.offset,b,n+1)else none
   |_,_=>none
  |none=>none
 |_=>none
def Z2k(b:Bool)(n:Nat)(l:List V)(off:Nat):Option V:=
 if b then(if off+n<=l.length then some (.agg ((l.drop off).take n))else none)else l[off]?
@[go_sem] theorem partC_true(n:Nat)(l:List V)(off:Nat):Z2k true n l off=if off+n<=l.length then some (.agg ((l.drop off).take n))else none:=rfl
@[go_sem] theorem partC_false(n:Nat)(l:List V)(off:Nat):Z2k false n l off=l[off]? := rfl
theorem Zjg{t:TypeId}{b:Bool}{n:Nat}(h1:Zof P t=some b)(h2:Z9a P t=some n)(h3:b=true\/n=1)(l:List V)(off:Nat):Zzj P t l off=Z2k b n l off:=by
 unfold Zzj Z2k;rw[h1,h2]
 cases b with
 |true=>rfl
 |false=>
  rcases h3 with h3|h3
  cases h3;subst h3;rfl
def fldK(x:Option (Nat×Bool×Nat))(a:V):Option V:=
 match x,a with
 |some (k,_,_),.ptr o g off=>some (.ptr o g (off+k))
 |some (k,b,n),.view c (.agg l)=>(Z2k b n l k).map (.view c)
 |_,_=>none
@[go_sem] theorem fldK_ptr(k n:Nat)(b:Bool)(o g off:Nat):fldK (some (k,b,n)) (.ptr o g off)=some (.ptr o g (off+k)):=rfl
@[go_sem] theorem fldK_view(k n:Nat)(b:Bool)(c:Col)(l:List V):fldK (some (k,b,n)) (.view c (.agg l))=(Z2k b n l k).map (.view c):=rfl
theorem Ztv{t:TypeId}{f:Nat}{x:Nat×Bool×Nat}(h:fldOf P t f=some x)(a:V):Z2d P t a f=fldK (some x) a:=by
 unfold fldOf at h;unfold Z2d
 split at h
 rename_i fs hu;rw[hu];simp only
 split at h
 rename_i fd hf;rw[hf];simp only
 split at h
 rename_i b n h1 h2
 split at h
 .rename_i hc
  simp at h;subst h;rw[h2];simp only;unfold fldK
  cases a<;>try rfl
  rename_i c v
  cases v<;>try rfl
  rename_i l;simp only;rw[Zjg h1 h2 (hc.imp id zo)]
 simp at h;simp at h;simp at h;simp at h
def Zqf(P:Program)(t:TypeId):Option Nat:=match P.underlying t with|some (.slice e)=>Z9a P e|_=>none
def Zm0(P:Program)(t:TypeId):Bool:=match P.underlying t with|some .string=>true|_=>false
def Zsz(P:Program)(t:TypeId):Option (Bool×Nat):=
 match Zof P t,Z9a P t with
 |some true,some n=>some (true,n)
 |some false,some 1=>some (false,1)
 |_,_=>none
def idxK(e:Option Nat)(a i:V):Option V:=
 match e,a,i with
 |some m,.slice c _ E l,.int _ n=>if m=E/\0<=n then(l[n.toNat]?).map (.view c)else none
 |some m,.msl o g off len E,.int _ n=>if m=E/\0<=n/\n<len then some (.ptr o g (off+n.toNat*E))else none
 |_,_,_=>none
theorem Zbv{t:TypeId}{m:Nat}(h:Zqf P t=some m)(a i:V):Zyb P t a i=idxK (some m) a i:=by
 unfold Zqf at h;unfold Zyb idxK
 split at h
 .rename_i e hu
  rw[hu]
  cases i<;>try(cases a<;>rfl)
  cases a<;>try rfl
  simp only[h,Option.some.injEq];simp only[h,Option.some.injEq]
 simp at h
@[go_sem] theorem idxK_slice(m:Nat)(c:Col)(clip:Bool)(E:Nat)(l:List V)(k:IntKind)(n:Int):idxK (some m) (.slice c clip E l) (.int k n)=if m=E/\0<=n then(l[n.toNat]?).map (.view c)else none:=rfl
@[go_sem] theorem idxK_msl(m o g off len E:Nat)(k:IntKind)(n:Int):idxK (some m) (.msl o g off len E) (.int k n)=if m=E/\0<=n/\n<len then some (.ptr o g (off+n.toNat*E))else none:=rfl
def Zz9(sl:Bool)(a:V):Option V:=
 match a with
 |.nils=>if sl then some (.int .i64 0)else none
 |.slice _ _ _ l=>if sl then some (.int .i64 l.length)else none
 |.msl _ _ _ len _=>if sl then some (.int .i64 len)else none
 |.str s=>if sl then none else some (.int .i64 s.length)
 |_=>none
theorem Zw9{t:TypeId}{m:Nat}(h:Zqf P t=some m)(a:V):lenV P t a=Zz9 true a:=by
 unfold Zqf at h;unfold lenV Zz9
 split at h
 rename_i e hu;rw[hu]
 cases a<;>rfl
 simp at h
theorem Zima{t:TypeId}(h:Zm0 P t=true)(a:V):lenV P t a=Zz9 false a:=by
 unfold Zm0 at h;unfold lenV Zz9
 split at h
 rename_i hu;rw[hu]
 cases a<;>rfl
 simp at h
theorem Zega:Zz9 true .nils=some (.int .i64 0):=rfl
theorem Zx9(c:Col)(clip:Bool)(E:Nat)(l:List V):Zz9 true (.slice c clip E l)=some (.int .i64 l.length):=rfl
theorem Zlma(o g off len E:Nat):Zz9 true (.msl o g off len E)=some (.int .i64 len):=rfl
theorem Zkma(s:List UInt8):Zz9 false (.str s)=some (.int .i64 s.length):=rfl
attribute[go_sem]Zega Zx9 Zlma Zkma
def Zng(x:Option (Bool×Nat))(ob:AObj)(a:V):Option V:=
 match x,a with
 |some (b,n),.ptr _ g off=>match ob with
  |.cells _ g' _ cs=>if g=g' then Z2k b n cs off else none
  |_=>none
 |some (b,n),.view _ v=>match v,b with
  |.agg l,true=>if n=l.length then some (.agg l)else none
  |.agg _,false=>none
  |.top,_=>none
  |.tuple _,_=>none
  |_,true=>none
  |v,false=>some v
 |_,_=>none
def obOf(H:Heap)(a:V):AObj:=match a with|.ptr o _ _=>H o|_=>.dead
theorem readV_K{t:TypeId}{b:Bool}{n:Nat}(h:Zsz P t=some (b,n))(H:Heap)(a:V):Zvb P H t a=Zng (some (b,n)) (obOf H a) a:=by
 unfold Zsz at h
 have hh:Zof P t=some b/\Z9a P t=some n/\(b=true\/n=1):=by
  split at h<;>simp at h<;>obtain⟨rfl,rfl⟩:=h<;>rename_i h1 h2
  exact⟨h1,h2,.inl rfl⟩;exact⟨h1,h2,.inr rfl⟩
 obtain⟨h1,h2,h3⟩:=hh;unfold Zvb
 cases a<;>try(simp[Zec,Zng];done)
 rename_i c v;simp only[Zec,Zng,h1,h2]
 cases b<;>cases v<;>simp
 .rename_i o g off
  simp only[Zng,obOf]
  cases H o with
  |dead=>rfl
  |mp=>rfl
  |lp=>rfl
  |cells c g' fz cs=>
   simp only;rw[Zjg h1 h2 h3]
theorem Z3la(H:Heap)(o g off:Nat):obOf H (.ptr o g off)=H o:=rfl
theorem Zaga(b:Bool)(n o g off:Nat)(c:Col)(g' fz:Nat)(cs:List V):Zng (some (b,n)) (.cells c g' fz cs) (.ptr o g off)=if g=g' then Z2k b n cs off else none:=rfl
theorem Zdga(n:Nat)(ob:AObj)(c:Col)(l:List V):Zng (some (true,n)) ob (.view c (.agg l))=if n=l.length then some (.agg l)else none:=rfl
theorem Zbga(n:Nat)(ob:AObj)(c:Col)(k:IntKind)(i:Int):Zng (some (false,n)) ob (.view c (.int k i))=some (.int k i):=rfl
theorem Zu9(n:Nat)(ob:AObj)(c:Col)(b:Bool):Zng (some (false,n)) ob (.view c (.bool b))=some (.bool b):=rfl
theorem Z9fa(n:Nat)(ob:AObj)(c:Col)(s:List UInt8):Zng (some (false,n)) ob (.view c (.str s))=some (.str s):=rfl
theorem Zi0(n:Nat)(ob:AObj)(c c':Col)(clip:Bool)(E:Nat)(l:List V):Zng (some (false,n)) ob (.view c (.slice c' clip E l))=some (.slice c' clip E l):=rfl
theorem Zs9(n:Nat)(ob:AObj)(c:Col):Zng (some (false,n)) ob (.view c .nils)=some .nils:=rfl
theorem Zt9(n:Nat)(ob:AObj)(c:Col)(fn:Fn)(a b:List V):Zng (some (false,n)) ob (.view c (.func fn a b))=some (.func fn a b):=rfl
attribute[go_sem]Z3la Zaga Zdga Zbga Zu9 Z9fa Zi0 Zs9 Zt9
def Z8da(sz:Option Nat)(H:Heap)(ob:AObj)(a v:V):Option Heap:=
 match a,ob with
 |.ptr o g off,.cells c g' fz cs=>if g=g'/\v.solid=true/\sz=some v.cells.length/\fz<=off/\off+v.cells.length<=cs.length then some (upd H o (.cells c g fz (setAt cs off v.cells)))else none
 |_,_=>none
theorem Zrka(H:Heap)(t:TypeId)(a v:V):Zsl P H t a v=Z8da (Z9a P t) H (obOf H a) a v:=by
 unfold Zsl Z8da
 cases a<;>try rfl
 rename_i o g off;simp only[obOf]
 cases H o<;>rfl
theorem Z07(sz:Option Nat)(H:Heap)(o g off:Nat)(c:Col)(g' fz:Nat)(cs:List V)(v:V):Z8da sz H (.cells c g' fz cs) (.ptr o g off) v =
  if g=g'/\v.solid=true/\sz=some v.cells.length/\fz<=off/\off+v.cells.length<=cs.length then some (upd H o (.cells c g fz (setAt cs off v.cells)))else none:=rfl
theorem Zpea(cs:List V)(off:Nat):setAt cs off []=cs:=rfl
theorem Zd8(cs:List V)(off:Nat)(v:V)(r:List V):setAt cs off (v::r)=setAt (cs.set off v) (off+1) r:=rfl
attribute[go_sem]Zrka Z07 Zpea Zd8
section
theorem Zzv(l:List V):(V.agg l).cells=l:=rfl
theorem Z8ha(k:IntKind)(n:Int):(V.int k n).cells=[.int k n]:=rfl
theorem Zuaa(b:Bool):(V.bool b).cells=[.bool b]:=rfl
theorem Z5ha(s:List UInt8):(V.str s).cells=[.str s]:=rfl
theorem Zsaa:V.nils.cells=[.nils]:=rfl
theorem Z7ha(o g off len E:Nat):(V.msl o g off len E).cells=[.msl o g off len E]:=rfl
theorem Z6ha(o g off:Nat):(V.ptr o g off).cells=[.ptr o g off]:=rfl
theorem Ztaa(fn:Fn)(a b:List V):(V.func fn a b).cells=[.func fn a b]:=rfl
theorem Zhea(l:List V):(V.agg l).solid=true:=rfl
theorem Zfea(k:IntKind)(n:Int):(V.int k n).solid=true:=rfl
theorem Z87(b:Bool):(V.bool b).solid=true:=rfl
theorem Zcea(s:List UInt8):(V.str s).solid=true:=rfl
theorem Z67:V.nils.solid=true:=rfl
theorem Zeea(o g off len E:Nat):(V.msl o g off len E).solid=true:=rfl
theorem Zdea(o g off:Nat):(V.ptr o g off).solid=true:=rfl
theorem Z77(fn:Fn)(a b:List V):(V.func fn a b).solid=true:=rfl
theorem Zyka(v:V):Ziea v=if v.solid then some v.cells else none:=rfl
theorem Zvea(z:List V):Z7f 0 z=[]:=rfl
theorem Zwea(n:Nat)(z:List V):Z7f (n+1) z=z++Z7f n z:=rfl
attribute[go_sem]Zzv Z8ha Zuaa Z5ha Zsaa Z7ha Z6ha Ztaa Zhea Zfea Z87 Zcea Z67 Zeea Zdea Z77 Zyka Zvea Zwea
end
section
variable(P)(t:TypeId)
def Zlg(P:Program)(t:TypeId):Nat:=
 match P.underlying t with
 |some (.pointer _)=>1
 |some (.slice _)=>2
 |some (.func _ _ _)=>3
 |some (.interface _)=>4
 |some (.map _ _)=>5
 |_=>0
def Zd9(k:Nat)(a:V):Option Bool:=
 match a with
 |.nilp=>if k=1 then some true else none
 |.view _ _=>if k=1 then some false else none
 |.ptr _ _ _=>if k=1 then some false else none
 |.nils=>if k=2 then some true else none
 |.slice _ _ _ _=>if k=2 then some false else none
 |.msl _ _ _ _ _=>if k=2 then some false else none
 |.nilf=>if k=3 then some true else none
 |.func _ _ _=>if k=3 then some false else none
 |.iface _ _=>if k=4 then some false else none
 |.nilm=>if k=5 then some true else none
 |_=>none
theorem nilB_K(a:V):nilB P t a=Zd9 (Zlg P t) a:=by
 unfold nilB Zlg
 cases h:P.underlying t with
 |none=>cases a<;>rfl
 |some u=>cases u<;>cases a<;>rfl
def Zlf(k:Nat):V:=if k=1 then .nilp else if k=2 then .nils else if k=3 then .nilf else if k=4 then .nili else .nilm
theorem eqV_nil{k:Nat}(h:Zlg P t=k)(hk:k≠0)(a:V):eqV P t a (Zlf k)=Zd9 k a:=by
 have hf:Zki P t (Zlf k)=true:=by
  subst h;unfold Zki Zlf Zlg at *
  cases hu:P.underlying t with
  |none=>rw[hu]at hk;exact absurd rfl hk
  |some u=>rw[hu]at hk;cases u<;>first|rfl|exact absurd rfl hk
 have hb:∀ x,Zlf k ≠ .bool x:=by
  intro x;unfold Zlf
  repeat' split
  all_goals exact λh=>by cases h
 rw[<- h,<- nilB_K];unfold eqV
 split
 rename_i x y e;rw[h]at e;exact absurd e (hb _);rw[h,if_pos hf]
theorem Zlk{k:Nat}(h:Zlg P t=k)(hk:k≠0)(a:V):Zvm P .eql t a (Zlf k)=(Zd9 k a).map .bool/\Zvm P .neq t a (Zlf k)=(Zd9 k a).map λr=>.bool (!r):=by
 rw[<- eqV_nil P t h hk]
 have h1:∀ k' n,Zlf k ≠ .int k' n:=by
  intro k' n;unfold Zlf
  repeat' split
  all_goals exact λh=>by cases h
 have h2:∀ l,Zlf k ≠ .str l:=by
  intro l;unfold Zlf
  repeat' split
  all_goals exact λh=>by cases h
 have h3:∀ l,Zlf k ≠ .agg l:=by
  intro l;unfold Zlf
  repeat' split
  all_goals exact λh=>by cases h
 generalize Zlf k=b at *;unfold Zvm
 constructor
 split
 exact absurd rfl (h1 _ _);exact absurd rfl (h2 _);exact absurd rfl (h3 _);rfl
 split
 exact absurd rfl (h1 _ _);exact absurd rfl (h2 _);exact absurd rfl (h3 _);rfl
theorem Zufa:Zd9 2 .nils=some true:=rfl
theorem Zc9(c:Col)(b:Bool)(m:Nat)(l:List V):Zd9 2 (.slice c b m l)=some false:=rfl
theorem Ztfa(c:Col)(v:V):Zd9 1 (.view c v)=some false:=rfl
attribute[go_sem]Zufa Zc9 Ztfa
end
def bsK(m:Nat)(z:List V)(len:Nat)(parts:List (Nat×V)):Option (Nat×Nat×List V):=
 if len*m<=16777216 then(Zsd (λi=>some (i*m,m)) (Z7f len z) parts).map λcs=>(m,len,cs)else none
theorem Zcia{P:Program}{t e:TypeId}{m:Nat}{z:List V}(h1:P.underlying t=some (.slice e))(h2:Z9a P e=some m)(h3:Zac P e=some z)(h4:z.length=m)(len:Nat)(parts:List (Nat×V)):
  Z5o P t len parts=bsK m z len parts:=by
 unfold Z5o bsK;simp only[h1,h2,h3,h4,true_and]
def mulP(m:Nat):Nat->Option (Nat×Nat):=λi=>some (i*m,m)
def tblP(tbl:List (Nat×Nat)):Nat->Option (Nat×Nat):=λi=>tbl[i]?
theorem bsK_lit(m:Nat)(z:List V)(len:Nat)(parts:List (Nat×V)):bsK m z len parts=if len*m<=16777216 then(Zsd (mulP m) (Z7f len z) parts).map λcs=>(m,len,cs)else none:=rfl
theorem Zcha(p:Nat->Option (Nat×Nat))(cells:List V):Zsd p cells []=some cells:=rfl
theorem Zdha(m:Nat)(cells:List V)(i:Nat)(v:V)(rest:List (Nat×V)):Zsd (mulP m) cells ((i,v)::rest) =
  if v.solid=true/\v.cells.length=m/\i*m+m<=cells.length then Zsd (mulP m) (setAt cells (i*m) v.cells) rest else none:=rfl
attribute[go_sem]bsK_lit Zcha Zdha
def fillT(tbl:List (Nat×Nat))(p:Option (Nat×Nat))(cells:List V)(v:V)(rest:List (Nat×V)):Option (List V):=
 match p with
 |none=>none
 |some (off,size)=>if v.solid=true/\v.cells.length=size/\off+size<=cells.length then Zsd (tblP tbl) (setAt cells off v.cells) rest else none
@[go_sem] theorem fillV_tbl(tbl:List (Nat×Nat))(cells:List V)(i:Nat)(v:V)(rest:List (Nat×V)):Zsd (tblP tbl) cells ((i,v)::rest)=fillT tbl (tbl[i]?) cells v rest:=rfl
@[go_sem] theorem fillT_some(tbl:List (Nat×Nat))(off size:Nat)(cells:List V)(v:V)(rest:List (Nat×V)):fillT tbl (some (off,size)) cells v rest =
  if v.solid=true/\v.cells.length=size/\off+size<=cells.length then Zsd (tblP tbl) (setAt cells off v.cells) rest else none:=rfl
def tblOf(P:Program)(t:TypeId):Option (List (Nat×Nat)):=
 match P.underlying t with
 |some (.struct fs)=>fs.toList.mapM λf=>(Z9a P f.type).map λn=>(f.offset,n)
 |_=>none
theorem Zc6{α β : Type}{f : α -> Option β}:∀ {l:List α} {r:List β},l.mapM f=some r->(l.all λx=>(f x).isSome)=true/\∀ i:Nat,r[i]?=(l[i]?).bind f
 |[],r,h=>by
  simp at h;subst h;exact⟨rfl,λi=>zS⟩
 |x::l,r,h=>by
  simp only[List.mapM_cons,Option.bind_eq_bind,Option.bind_eq_some_iff,Option.pure_def,Option.some.injEq]at h;obtain⟨y,hy,ys,hys,rfl⟩:=h;obtain⟨h1,h2⟩:=Zc6 hys;refine⟨by simp[hy];simpa using h1,λi=>?_⟩
  cases i with
  |zero=>simp[hy]
  |succ i=>simpa using h2 i
theorem Z56{P:Program}{t:TypeId}{tbl:List (Nat×Nat)}{z:List V}(h1:tblOf P t=some tbl)(h2:Zre P t=some (.agg z))(parts:List (Nat×V)):
  Zff P t parts=(Zsd (tblP tbl) z parts).map .agg:=by
 unfold tblOf at h1
 cases hu:P.underlying t with
 |none=>rw[hu]at h1;cases h1
 |some k=>
  rw[hu]at h1
  cases k<;>simp only[reduceCtorEq]at h1
  rename_i fs;obtain⟨h3,h4⟩:=Zc6 h1;unfold Zff;rw[hu,h2];have h5:(fs.toList.all λf=>(Z9a P f.type).isSome)=true:=zu h3;simp only[h5,Bool.true_and]
  have e:(λi=>(fs[i]?).bind λf=>(Z9a P f.type).map λn=>(f.offset,n))=tblP tbl:=by
   funext i
   have:=h4 i;unfold tblP;rw[this];simp
  rw[e];rfl
def slJ(i j:Option Nat)(f:Nat->Nat->Option V):Option V:=match i,j with|some i,some j=>f i j|_,_=>none
theorem Zn5(i j:Nat)(f:Nat->Nat->Option V):slJ (some i) (some j) f=f i j:=rfl
theorem Z7o(d:Nat):Zga d none=some d:=rfl
theorem Zxaa(d:Nat)(k:IntKind)(n:Int):Zga d (some (.int k n))=if 0<=n then some n.toNat else none:=rfl
attribute[go_sem]Zn5 Z7o Zxaa
def slK(m:Nat)(a:V)(lo hi:Option V):Option V:=
 match a with
 |.slice c clip E l=>slJ (Zga 0 lo) (Zga l.length hi) λi j=>if m=E/\i<=j/\j<=l.length then some (.slice c (clip&&j==l.length) E ((l.drop i).take (j-i)))else none
 |.msl o g off len E=>slJ (Zga 0 lo) (Zga len hi) λi j=>
   if m=E/\i<=j/\j<=len then some (if i=0 then .msl o g off j E else if i<j then .msl o g (off+i*E) (j-i) E else .slice .any false E [])else none
 |.nils=>slJ (Zga 0 lo) (Zga 0 hi) λi j=>if i=0/\j=0 then some .nils else none
 |_=>none
theorem Z3h{t:TypeId}{m:Nat}(h:Zqf P t=some m)(a:V)(lo hi:Option V):Zge P t a lo hi none=slK m a lo hi:=by
 unfold Zqf at h;unfold Zge slK
 split at h
 .rename_i e hu
  rw[hu]
  cases a<;>try rfl
  .simp only[h,Option.isSome_some,if_true]
   cases h1:Zga 0 lo with
   |none=>rfl
   |some i=>
    cases h2:Zga 0 hi with
    |none=>cases i<;>rfl
    |some j=>
     simp only[Z7o,Zn5]
     cases i with
     |zero=>cases j<;>rfl
     |succ i=>rw[if_neg zS];rfl
  .rename_i c clip E l
   simp only[h,Option.some.injEq]
   cases Zga 0 lo with
   |none=>rfl
   |some i=>
    cases Zga l.length hi with
    |none=>rfl
    |some j=>rfl
  .rename_i o g off len E
   simp only[h,Option.some.injEq]
   cases Zga 0 lo with
   |none=>rfl
   |some i=>
    cases Zga len hi with
    |none=>rfl
    |some j=>rfl
 simp at h
@[go_sem] theorem slK_msl(m o g off len E:Nat)(lo hi:Option V):slK m (.msl o g off len E) lo hi =
  slJ (Zga 0 lo) (Zga len hi) λi j=>if m=E/\i<=j/\j<=len then some (if i=0 then .msl o g off j E else if i<j then .msl o g (off+i*E) (j-i) E else .slice .any false E [])else none:=rfl
@[go_sem] theorem slK_nils(m:Nat)(lo hi:Option V):slK m .nils lo hi=slJ (Zga 0 lo) (Zga 0 hi) λi j=>if i=0/\j=0 then some .nils else none:=rfl
def msK(E bytes:Nat)(z:List V)(a b:V):Option (Nat×Nat×List V):=
 match a,b with
 |.int _ n,.int _ m=>if 0<=n/\n<=m/\m<=4611686018427387904/\bytes*m<=281474976710656 then some (E,n.toNat,Z7f m.toNat z)else none
 |_,_=>none
theorem Zao{t e:TypeId}{E bytes:Nat}{z:List V}(hu:P.underlying t=some (.slice e))(h1:Z9a P e=some E)(h2:Zpi P e=some bytes)(h3:Zac P e=some z)(h4:z.length=E)(a b:V):
  Zvi P t a b=msK E bytes z a b:=by
 unfold Zvi msK;rw[hu]
 cases a<;>try rfl
 cases b<;>try rfl
 simp only[h1,h2,h3,h4,true_and]
@[go_sem] theorem contS_ms{E:Ent}{ops:Array Oper}{Q:AS->Prop}{rest:List Oper}{τ : Nat->V}{H:Heap}(e m bytes:Nat)(z:List V)(k1 k2:IntKind)(n c:Int):
  Zmaa P E ops Q rest e τ H (msK m bytes z (.int k1 n) (.int k2 c)) =
   ((0<=n/\n<=c/\c<=4611686018427387904/\bytes*c<=281474976710656)/\∀ g,Zsa P E ops Q rest ⟨upd τ e (.msl (E.q+e) g 0 n.toNat m),upd H (E.q+e) (.cells .new g 0 (Z7f c.toNat z))⟩):=by
 have e1:msK m bytes z (.int k1 n) (.int k2 c)=if 0<=n/\n<=c/\c<=4611686018427387904/\bytes*c<=281474976710656 then some (m,n.toNat,Z7f c.toNat z)else none:=rfl
 rw[e1]
 by_cases h:0<=n/\n<=c/\c<=4611686018427387904/\bytes*c<=281474976710656
 rw[if_pos h,Zhr];exact(propext (and_iff_right h)).symm;rw[if_neg h];exact propext ⟨False.elim,λhh=>h hh.1⟩
theorem Zdna{s d:TypeId}{kd:IntKind}(h1:(P.underlying s).isSome=true)(h2:P.underlying d=some (.int kd))(k:IntKind)(n:Int):Zx0 P s d (.int k n)=some (.int kd (kd.wrap n)):=by
 unfold Zx0;rw[h2]
 cases h:P.underlying s with
 |none=>rw[h]at h1;cases h1
 |some t=>rfl
end
end Go.Hs
