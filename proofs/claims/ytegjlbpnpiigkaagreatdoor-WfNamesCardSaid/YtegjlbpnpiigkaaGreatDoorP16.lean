/- A part. No condition. -/
import Derived.Test.YtegjlbpnpiigkaaGreatDoorP15
import Derived.Attr
set_option linter.all false
namespace Go.Hs
section
variable{P:Program}{E:Ent}
def Zmq{α : Type}(o:Option α)(K : α -> Prop):Prop:=match o with|some v=>K v|none=>False
def Zif(P:Program)(E:Ent)(ops:Array Oper)(Q:AS->Prop)(rest:List Oper)(d:Option Nat)(τ : Nat->V)(H:Heap)(o:Option V):Prop:=Zmq o λv=>Zqa P E ops Q rest (AS.put ⟨τ,H⟩ d v)
def contH(P:Program)(E:Ent)(ops:Array Oper)(Q:AS->Prop)(rest:List Oper)(d:Option Nat)(τ : Nat->V)(o:Option Heap):Prop:=Zmq o λH=>Zqa P E ops Q rest (AS.put ⟨τ,H⟩ d (.tuple []))
def Zk8(P:Program)(E:Ent)(ops:Array Oper)(Q:AS->Prop)(rest:List Oper)(e:Nat)(τ : Nat->V)(H:Heap)(o:Option (List V)):Prop:=
 Zmq o λcs=>∀ g,Zqa P E ops Q rest ⟨upd τ e (.ptr (E.q+e) g 0),upd H (E.q+e) (.cells .new g 0 cs)⟩
def contS(P:Program)(E:Ent)(ops:Array Oper)(Q:AS->Prop)(rest:List Oper)(e:Nat)(τ : Nat->V)(H:Heap)(o:Option (Nat×Nat×List V)):Prop:=
 Zmq o λc=>∀ g,Zqa P E ops Q rest ⟨upd τ e (.msl (E.q+e) g 0 c.2.1 c.1),upd H (E.q+e) (.cells .new g 0 c.2.2)⟩
theorem Zb5{α : Type}(f:Nat -> α)(k:Nat)(x : α)(n:Nat):upd f k x n=if n=k then x else f n:=rfl
theorem ev_tmp(τ : Nat->V)(H:Heap)(t:Nat):AS.ev E ⟨τ,H⟩ (.tmp t) = τ t:=rfl
theorem ev_int(τ : Nat->V)(H:Heap)(k:IntKind)(n:Int):AS.ev E ⟨τ,H⟩ (.const (.int k n))=.int k n:=rfl
theorem ev_bool(τ : Nat->V)(H:Heap)(b:Bool):AS.ev E ⟨τ,H⟩ (.const (.bool b))=.bool b:=rfl
theorem ev_str(τ : Nat->V)(H:Heap)(s:ByteArray):AS.ev E ⟨τ,H⟩ (.const (.string s))=.str s.data.toList:=rfl
theorem ev_nils(τ : Nat->V)(H:Heap):AS.ev E ⟨τ,H⟩ (.const (.slice none 0 0))=.nils:=rfl
theorem ev_nilp(τ : Nat->V)(H:Heap):AS.ev E ⟨τ,H⟩ (.const (.pointer none))=.nilp:=rfl
theorem ev_func(τ : Nat->V)(H:Heap)(f:FuncId):AS.ev E ⟨τ,H⟩ (.func f)=.func (.func f) [] []:=rfl
theorem Z77(τ : Nat->V)(H:Heap)(g:Nat):AS.ev E ⟨τ,H⟩ (.global g)=E.G g:=rfl
theorem Zgba(τ : Nat->V)(H:Heap)(d:Nat)(v:V):AS.put ⟨τ,H⟩ (some d) v=⟨upd τ d v,H⟩:=rfl
theorem Zhba(τ : Nat->V)(H:Heap)(v:V):AS.put ⟨τ,H⟩ none v=⟨τ,H⟩:=rfl
theorem Z32(k:Nat)(v:V)(r:List V):Zng k (v::r)=upd (Zng (k+1) r) k v:=rfl
attribute[go_sem]Zb5 ev_tmp ev_int ev_bool ev_str ev_nils ev_nilp ev_func Z77 Zgba Zhba Z32
attribute [go_sem] List.map_cons List.map_nil List.length_cons List.length_nil List.getElem?_cons_zero List.getElem?_cons_succ List.drop_succ_cons List.drop_zero List.take_succ_cons List.take_zero
 List.set_cons_zero List.set_cons_succ List.append_nil List.nil_append List.cons_append Option.map_some Option.map_none Nat.zero_add Nat.add_zero Int.toNat_natCast and_true true_and Bool.not_true Bool.not_false
 and_self Int.natCast_nonneg Bool.false_eq_true Bool.true_eq_false eq_self if_true if_false ne_eq not_true_eq_false not_false_eq_true false_implies true_implies Option.bind_some forall_const
section
variable{ops:Array Oper}{Q:AS->Prop}{rest:List Oper}{τ : Nat->V}{H:Heap}{d:Option Nat}{ty:TypeId}{pos:String}{af:Array Edge}
@[go_sem] theorem Zso(s:AS):Zqa P E ops Q [] s=Q s:=rfl
def Zyf(b:Option Bool)(K0 K1:Prop):Prop:=match b with|some true=>K1|some false=>K0|none=>False
@[congr] theorem Znda{b b':Option Bool}{K0 K1:Prop}(h:b=b'):Zyf b K0 K1=Zyf b' K0 K1:=by rw[h]
@[go_sem] theorem Z3d(K0 K1:Prop):Zyf (some true) K0 K1=K1:=rfl
@[go_sem] theorem Zmda(K0 K1:Prop):Zyf (some false) K0 K1=K0:=rfl
def Znl(v:V)(want:Bool):Option Bool:=
 match v with
 |.bool b=>some (b==want)
 |.tuple []=>some false
 |_=>none
theorem Ziv(b:Bool):Znl (.bool b) true=some b:=by cases b<;>rfl
theorem Z2q(b:Bool):Znl (.bool b) false=some (!b):=by cases b<;>rfl
theorem Z1q(want:Bool):Znl (.tuple []) want=some false:=rfl
attribute[go_sem]Ziv Z2q Z1q
def Zlh(l:List Oper)(j:Nat):Option Nat:=(l[j]?).bind (·.dst)
@[go_sem] theorem slotAt_zero(o:Oper)(l:List Oper):Zlh (o::l) 0=o.dst:=rfl
@[go_sem] theorem slotAt_succ(o:Oper)(l:List Oper)(j:Nat):Zlh (o::l) (j+1)=Zlh l j:=rfl
def Z5g(v:Option V)(want:Bool):Option Bool:=match v with|some v=>Znl v want|none=>some false
@[go_sem] theorem Zoda(v:V)(want:Bool):Z5g (some v) want=Znl v want:=rfl
theorem Zuh(s:AS)(o:Oper):Zqa P E ops Q (o::rest) s=Zyf (Zw ops s.τ o) (Zqa P E ops Q rest (s.put o.dst (.tuple []))) (Zda P E s o λv H'=>Zqa P E ops Q rest (AS.put { s with H:=H' } o.dst v)):=by
 simp only[Zqa,Zyf]
 cases Zw ops s.τ o with
 |none=>rfl
 |some b=>cases b<;>rfl
@[go_sem] theorem opsA_guard(l:List Oper)(op:Op)(j:Nat)(want:Bool):
  Zqa P E ⟨l⟩ Q (⟨d,op,ty,pos,af,some (j,want)⟩::rest) ⟨τ,H⟩ =
   Zyf (Z5g ((Zlh l j).map τ) want) (Zqa P E ⟨l⟩ Q rest (AS.put ⟨τ,H⟩ d (.tuple []))) (Zqa P E ⟨l⟩ Q (⟨d,op,ty,pos,af,none⟩::rest) ⟨τ,H⟩):=by
 rw[Zuh,Zuh];have e1:Zw ⟨l⟩ τ ⟨d,op,ty,pos,af,none⟩=some true:=rfl
 have e2:Zw ⟨l⟩ τ ⟨d,op,ty,pos,af,some (j,want)⟩=Z5g ((Zlh l j).map τ) want:=by
  unfold Zw Zlh;simp only[List.getElem?_toArray]
  cases(l[j]?).bind (·.dst)with
  |none=>rfl
  |some e=>
   simp only[Option.map_some,Z5g,Znl];generalize τ e=v
   cases v<;>rfl
 rw[e1,e2];simp only[Z3d];rfl
variable(ops)
theorem Zgb(op:Op)(hs:∀ K,Zda P E ⟨τ,H⟩ ⟨d,op,ty,pos,af,none⟩ K=(match opV P (AS.ev E ⟨τ,H⟩) ⟨d,op,ty,pos,af,none⟩with|some v=>K v H|none=>False)):
  Zqa P E ops Q (⟨d,op,ty,pos,af,none⟩::rest) ⟨τ,H⟩=Zif P E ops Q rest d τ H (opV P (AS.ev E ⟨τ,H⟩) ⟨d,op,ty,pos,af,none⟩):=by
 rw[Zuh];have e1:Zw ops (⟨τ,H⟩:AS).τ ⟨d,op,ty,pos,af,none⟩=some true:=rfl;rw[e1,Z3d,hs];unfold Zif Zmq
 cases opV P (AS.ev E ⟨τ,H⟩) ⟨d,op,ty,pos,af,none⟩<;>rfl
@[go_sem] theorem opsA_move(x:Operand):Zqa P E ops Q (⟨d,.move x,ty,pos,af,none⟩::rest) ⟨τ,H⟩=Zqa P E ops Q rest (AS.put ⟨τ,H⟩ d (AS.ev E ⟨τ,H⟩ x)):=Zgb ops _ λ_=>rfl
@[go_sem] theorem opsA_assign(x:Operand):Zqa P E ops Q (⟨d,.assign x,ty,pos,af,none⟩::rest) ⟨τ,H⟩=Zqa P E ops Q rest (AS.put ⟨τ,H⟩ d (AS.ev E ⟨τ,H⟩ x)):=Zgb ops _ λ_=>rfl
def Zlba(c a b:V):Option V:=match c with|.bool true=>some a|.bool false=>some b|_=>none
theorem Ze1(a b:V):Zlba (.bool true) a b=some a:=rfl
theorem Zyu(a b:V):Zlba (.bool false) a b=some b:=rfl
theorem Zzu(c a b:Bool):Zlba (.bool c) (.bool a) (.bool b)=some (.bool (if c then a else b)):=by cases c<;>rfl
theorem Zo6(c a b:Operand):Zqa P E ops Q (⟨d,.pick c a b,ty,pos,af,none⟩::rest) ⟨τ,H⟩ =
  Zif P E ops Q rest d τ H (Zlba (AS.ev E ⟨τ,H⟩ c) (AS.ev E ⟨τ,H⟩ a) (AS.ev E ⟨τ,H⟩ b)):=Zgb ops _ λ_=>rfl
theorem Zq1(op:BinOp)(t:TypeId)(x y:Operand)(u:TypeId):Zqa P E ops Q (⟨d,.binOp op t x y u,ty,pos,af,none⟩::rest) ⟨τ,H⟩ =
  Zif P E ops Q rest d τ H (Zbi P op t (AS.ev E ⟨τ,H⟩ x) (AS.ev E ⟨τ,H⟩ y)):=Zgb ops _ λ_=>rfl
theorem Zn6(op:UnOp)(t:TypeId)(x:Operand):Zqa P E ops Q (⟨d,.unOp op t x,ty,pos,af,none⟩::rest) ⟨τ,H⟩ =
  Zif P E ops Q rest d τ H (unV op (AS.ev E ⟨τ,H⟩ x)):=Zgb ops _ λ_=>rfl
theorem Zsq(t u:TypeId)(x:Operand):Zqa P E ops Q (⟨d,.convert t u x,ty,pos,af,none⟩::rest) ⟨τ,H⟩ =
  Zif P E ops Q rest d τ H (Zov P t u (AS.ev E ⟨τ,H⟩ x)):=Zgb ops _ λ_=>rfl
attribute[go_sem]Ze1 Zyu Zzu Zo6 Zq1 Zn6 Zsq
def Zyz(t:V)(i:Nat):Option V:=match t with|.tuple vs=>vs[i]? |_=>none
theorem Z2m(vs:List V)(i:Nat):Zyz (.tuple vs) i=vs[i]? := rfl
theorem Zrq(x:Operand)(i:Nat):Zqa P E ops Q (⟨d,.extract x i,ty,pos,af,none⟩::rest) ⟨τ,H⟩ =
  Zif P E ops Q rest d τ H (Zyz (AS.ev E ⟨τ,H⟩ x) i):=Zgb ops _ λ_=>rfl
theorem Zwm(t:TypeId)(x:Operand)(f:Nat):Zqa P E ops Q (⟨d,.fieldAddr t x f,ty,pos,af,none⟩::rest) ⟨τ,H⟩ =
  Zif P E ops Q rest d τ H (Z3c P t (AS.ev E ⟨τ,H⟩ x) f):=Zgb ops _ λ_=>rfl
theorem Zvm(t:TypeId)(x i:Operand):Zqa P E ops Q (⟨d,.indexAddr t x i,ty,pos,af,none⟩::rest) ⟨τ,H⟩ =
  Zif P E ops Q rest d τ H (Zab P t (AS.ev E ⟨τ,H⟩ x) (AS.ev E ⟨τ,H⟩ i)):=Zgb ops _ λ_=>rfl
theorem Zo1(t:TypeId)(x i:Operand):Zqa P E ops Q (⟨d,.index t x i,ty,pos,af,none⟩::rest) ⟨τ,H⟩ =
  Zif P E ops Q rest d τ H (Zwf P t (AS.ev E ⟨τ,H⟩ x) (AS.ev E ⟨τ,H⟩ i)):=Zgb ops _ λ_=>rfl
theorem Zn1(t:TypeId)(x:Operand)(lo hi mx:Option Operand):Zqa P E ops Q (⟨d,.slice t x lo hi mx,ty,pos,af,none⟩::rest) ⟨τ,H⟩ =
  Zif P E ops Q rest d τ H (Zpe P t (AS.ev E ⟨τ,H⟩ x) (lo.map (AS.ev E ⟨τ,H⟩)) (hi.map (AS.ev E ⟨τ,H⟩)) (mx.map (AS.ev E ⟨τ,H⟩))):=Zgb ops _ λ_=>rfl
theorem Zp1(t:TypeId)(l:List (Nat×Operand)):Zqa P E ops Q (⟨d,.build t ⟨l⟩,ty,pos,af,none⟩::rest) ⟨τ,H⟩ =
  Zif P E ops Q rest d τ H (Zie P t (l.map λp=>(p.1,AS.ev E ⟨τ,H⟩ p.2))):=Zgb ops _ λ_=>rfl
theorem Zto(fn:Fn)(l m:List Operand):Zqa P E ops Q (⟨d,.makeFunc fn ⟨l⟩ ⟨m⟩,ty,pos,af,none⟩::rest) ⟨τ,H⟩ =
  Zqa P E ops Q rest (AS.put ⟨τ,H⟩ d (.func fn (l.map (AS.ev E ⟨τ,H⟩)) (m.map (AS.ev E ⟨τ,H⟩)))):=Zgb ops _ λ_=>rfl
theorem Z0ba(k k':IntKind)(x y:Int):maxL [.int k x,.int k' y]=some (.int k (if y>x then y else x)):=rfl
theorem Zpba(l:List Operand)(ats:List TypeId):Zqa P E ops Q (⟨d,.call ⟨.builtin .max,⟨l⟩,⟨ats⟩⟩,ty,pos,af,none⟩::rest) ⟨τ,H⟩ =
  Zif P E ops Q rest d τ H (maxL (l.map (AS.ev E ⟨τ,H⟩))):=Zgb ops _ λ_=>rfl
theorem Zqba(x:Operand)(t:TypeId):Zqa P E ops Q (⟨d,.call ⟨.builtin .len,⟨[x]⟩,⟨[t]⟩⟩,ty,pos,af,none⟩::rest) ⟨τ,H⟩ =
  Zif P E ops Q rest d τ H (Z44 P t (AS.ev E ⟨τ,H⟩ x)):=Zgb ops _ λ_=>rfl
theorem Zro(x:Operand):Zqa P E ops Q (⟨d,.nilCheck x,ty,pos,af,none⟩::rest) ⟨τ,H⟩ =
  Zif P E ops Q rest d τ H (opV P (AS.ev E ⟨τ,H⟩) ⟨d,.nilCheck x,ty,pos,af,none⟩):=Zgb ops _ λ_=>rfl
attribute[go_sem]Z2m Zrq Zwm Zvm Zo1 Zn1 Zp1 Zto Z0ba Zpba Zqba Zro
theorem Zsb(op:Op):Zqa P E ops Q (⟨d,op,ty,pos,af,none⟩::rest) ⟨τ,H⟩=Zda P E ⟨τ,H⟩ ⟨d,op,ty,pos,af,none⟩ λv H'=>Zqa P E ops Q rest (AS.put ⟨τ,H'⟩ d v):=by
 rw[Zuh];rfl
@[go_sem] theorem opsA_load(t:TypeId)(x:Operand):Zqa P E ops Q (⟨d,.load t x,ty,pos,af,none⟩::rest) ⟨τ,H⟩ =
  Zif P E ops Q rest d τ H (Zfb P H t (AS.ev E ⟨τ,H⟩ x)):=by
 rw[Zsb];simp only[Zda,Zif,Zmq]
 cases Zfb P H t (AS.ev E ⟨τ,H⟩ x)<;>rfl
@[go_sem] theorem opsA_store(t:TypeId)(p x:Operand):Zqa P E ops Q (⟨d,.store t p x,ty,pos,af,none⟩::rest) ⟨τ,H⟩ =
  contH P E ops Q rest d τ (Zdj P H t (AS.ev E ⟨τ,H⟩ p) (AS.ev E ⟨τ,H⟩ x)):=by
 rw[Zsb];simp only[Zda,contH,Zmq]
 cases Zdj P H t (AS.ev E ⟨τ,H⟩ p) (AS.ev E ⟨τ,H⟩ x)<;>rfl
def Zwc(P:Program)(t:TypeId):Option (List V):=(Zae P t).bind λz=>if z.solid then some z.cells else none
@[go_sem] theorem opsA_alloc(t:TypeId)(e:Nat):Zqa P E ops Q (⟨some e,.alloc t,ty,pos,af,none⟩::rest) ⟨τ,H⟩ =
  Zk8 P E ops Q rest e τ H (Zwc P t):=by
 rw[Zsb];simp only[Zda,Zwc,Zk8]
 cases Zae P t with
 |none=>rfl
 |some z=>
  simp only[Option.bind_some]
  cases hz:z.solid with
  |false=>simp[Zmq]
  |true=>simp[Zmq,AS.put]
def Zu5(v:V):Option (List V):=if v.solid then some v.cells else none
@[go_sem] theorem opsA_box(t:TypeId)(x:Operand)(e:Nat):Zqa P E ops Q (⟨some e,.box t x,ty,pos,af,none⟩::rest) ⟨τ,H⟩ =
  Zk8 P E ops Q rest e τ H (Zu5 (AS.ev E ⟨τ,H⟩ x)):=by
 rw[Zsb];simp only[Zda,Zu5,Zk8]
 cases hz:(AS.ev E ⟨τ,H⟩ x).solid with
 |false=>simp[Zmq]
 |true=>simp[Zmq,AS.put]
def Z3l(P:Program)(t:TypeId)(len:Nat)(parts:List (Nat×V)):Option (Nat×Nat×List V):=
 match P.underlying t with
 |some (.slice e)=>match Zbb P e,Zwc P e with
  |some E,some z=>if z.length=E/\len*E<=16777216 then(Zuc (λi=>some (i*E,E)) (Ztp len z) parts).map λcs=>(E,len,cs)else none
  |_,_=>none
 |_=>none
@[go_sem] theorem Zp6(t:TypeId)(len e:Nat)(l:List (Nat×Operand)):Zqa P E ops Q (⟨some e,.buildSlice t len ⟨l⟩,ty,pos,af,none⟩::rest) ⟨τ,H⟩ =
  contS P E ops Q rest e τ H (Z3l P t len (l.map λp=>(p.1,AS.ev E ⟨τ,H⟩ p.2))):=by
 rw[Zsb];simp only[Zda,Zjc,Z3l,Zwc,contS]
 cases P.underlying t with
 |none=>rfl
 |some k=>
  cases k<;>try rfl
  rename_i e';simp only
  cases Zbb P e' with
  |none=>rfl
  |some n=>
   cases Zae P e' with
   |none=>rfl
   |some z=>
    simp only[Option.bind_some]
    cases hz:z.solid with
    |false=>simp[Zmq]
    |true=>
     simp only[if_true,true_and]
     by_cases hc:z.cells.length=n/\len*n<=16777216
     .rw[if_pos hc]
      simp only[hc.1,hc.2,true_and]
      cases Zuc (λi=>some (i*n,n)) (Ztp len z.cells) (l.map λp=>(p.1,AS.ev E ⟨τ,H⟩ p.2))with
      |none=>simp[Zmq]
      |some cs=>simp[Zmq,AS.put]
     rw[if_neg hc];simp only[Zmq];rw[<- and_assoc];simp[hc]
def msCells(P:Program)(t:TypeId)(len cap:V):Option (Nat×Nat×List V):=
 match P.underlying t,len,cap with
 |some (.slice e),.int _ n,.int _ m=>match Zbb P e,Z2n P e,Zwc P e with
  |some E,some bytes,some z=>if z.length=E/\0<=n/\n<=m/\m<=4611686018427387904/\bytes*m<=281474976710656 then some (E,n.toNat,Ztp m.toNat z)else none
  |_,_,_=>none
 |_,_,_=>none
def callC(P:Program)(E:Ent)(ops:Array Oper)(Q:AS->Prop)(rest:List Oper)(d:Option Nat)(τ : Nat->V)(H:Heap)(f:V)(args:List V):Prop:=
 match f with
 |.func (.func fid) first cap=>CallP P E.G E.kp fid (first++args++cap) H λv H'=>Zqa P E ops Q rest (AS.put ⟨τ,H'⟩ d v)
 |_=>False
def CallC(P:Program)(E:Ent)(ops:Array Oper)(Q:AS->Prop)(rest:List Oper)(d:Option Nat)(τ : Nat->V)(H:Heap)(fid:FuncId)(args:List V):Prop:=
 match E.kp with
 |none=>CallA P E.G fid args H λv H'=>Zqa P E ops Q rest (AS.put ⟨τ,H'⟩ d v)
 |some k=>CallP P E.G (some k) fid args H λv H'=>Zqa P E ops Q rest (AS.put ⟨τ,H'⟩ d v)
@[go_sem] theorem callC_func(fid:FuncId)(first cap args:List V):callC P E ops Q rest d τ H (.func (.func fid) first cap) args=CallC P E ops Q rest d τ H fid (first++args++cap):=by
 simp only[callC,CallC]
 cases E.kp with
 |none=>exact Zrp
 |some k=>rfl
@[go_sem] theorem opsA_call(f:Operand)(l:List Operand)(ats:Array TypeId):Zqa P E ops Q (⟨d,.call ⟨.value f,⟨l⟩,ats⟩,ty,pos,af,none⟩::rest) ⟨τ,H⟩ =
  callC P E ops Q rest d τ H (AS.ev E ⟨τ,H⟩ f) (l.map (AS.ev E ⟨τ,H⟩)):=by
 rw[Zsb];rfl
def appC(P:Program)(E:Ent)(ops:Array Oper)(Q:AS->Prop)(rest:List Oper)(e:Nat)(τ : Nat->V)(H:Heap)(ats:List TypeId)(a b:V):Prop:=
 Z2i P H (E.q+e) ⟨ats⟩ a b λv H'=>Zqa P E ops Q rest (AS.put ⟨τ,H'⟩ (some e) v)
@[go_sem] theorem opsA_append(x y:Operand)(ats:List TypeId)(e:Nat):Zqa P E ops Q (⟨some e,.call ⟨.builtin .append,⟨[x,y]⟩,⟨ats⟩⟩,ty,pos,af,none⟩::rest) ⟨τ,H⟩ =
  appC P E ops Q rest e τ H ats (AS.ev E ⟨τ,H⟩ x) (AS.ev E ⟨τ,H⟩ y):=by
 rw[Zsb];rfl
def appOf(P:Program)(ats:List TypeId):Option (Nat×Nat):=
 match ats with
 |[t0,t1]=>match P.underlying t0,P.underlying t1 with
  |some (.slice _),some (.int _)=>none
  |some (.slice e),some _=>match Zbb P e,Z2n P e,Zwc P e with
   |some E,some bytes,some z=>if z.length=E then some (E,bytes)else none
   |_,_,_=>none
  |_,_=>none
 |_=>none
def appE(P:Program)(E:Ent)(ops:Array Oper)(Q:AS->Prop)(rest:List Oper)(e:Nat)(τ : Nat->V)(H:Heap)(m bytes:Nat)(a:V)(src:Option (Nat×List V))(ob:AObj):Prop:=
 match src with
 |none=>False
 |some (n,xc)=>
  match a with
  |.nils=>Zde bytes n/\(n=0->Zqa P E ops Q rest ⟨upd τ e .nils,H⟩)/\(n≠0->∀ g,Zqa P E ops Q rest ⟨upd τ e (.msl (E.q+e) g 0 n m),upd H (E.q+e) (.cells .new g 0 xc)⟩)
  |.slice c clip m' l=>m'=m/\Zde bytes (l.length+n)/\(n=0->Zqa P E ops Q rest ⟨upd τ e (.slice c clip m l),H⟩) /\
    (n≠0->clip=true/\∀ g,Zqa P E ops Q rest ⟨upd τ e (.msl (E.q+e) g 0 (l.length+n) m),upd H (E.q+e) (.cells .new g 0 (flat l++xc))⟩)
  |.msl o g off len m'=>m'=m/\Zde bytes (len+n) /\
   match ob with
   |.cells c g' fz cs=>g=g'/\off+len*m<=cs.length/\fz<=off+len*m /\
     ∀ g2,Zqa P E ops Q rest ⟨upd τ e (.msl o g2 0 (len+n) m),upd H o (.cells c.moved g2 (fz-off) ((cs.drop off).take (len*m)++xc))⟩
   |_=>False
  |_=>False
def obS(H:Heap)(a:V):AObj:=match a with|.msl o _ _ _ _=>H o|_=>.dead
theorem Z6u(H:Heap)(o g off len m:Nat):obS H (.msl o g off len m)=H o:=rfl
theorem Zuba(H:Heap):obS H .nils=.dead:=rfl
theorem Zs6(H:Heap)(c:Col)(b:Bool)(m:Nat)(l:List V):obS H (.slice c b m l)=.dead:=rfl
attribute[go_sem]Z6u Zuba Zs6
theorem appC_E{ats:List TypeId}{m bytes:Nat}(h:appOf P ats=some (m,bytes))(e:Nat)(a b:V):appC P E ops Q rest e τ H ats a b=appE P E ops Q rest e τ H m bytes a (Zfc H m b) (obS H a):=by
 unfold appOf at h
 split at h
 case h_2=>simp at h
 rename_i t0 t1
 split at h
 simp at h;rename_i e' bt hne h0 h1
 split at h
 rename_i N B z hs hb hz
 split at h
 .rename_i hzl
  simp at h;obtain⟨rfl,rfl⟩:=h
  have hzv:∃ zv,Zae P e'=some zv/\zv.solid=true/\zv.cells=z:=by
   unfold Zwc at hz
   cases hzz:Zae P e' with
   |none=>rw[hzz]at hz;simp at hz
   |some zv=>
    rw[hzz]at hz;simp only[Option.bind_some]at hz
    split at hz
    rename_i h1;simp at hz;exact⟨zv,rfl,h1,hz⟩;simp at hz
  obtain⟨zv,h2,h3,h4⟩:=hzv;unfold appC Z2i;simp only[h0,h1]
  have fin:Zeh H (E.q+e) N B a b (λv H'=>Zqa P E ops Q rest (AS.put ⟨τ,H'⟩ (some e) v))=appE P E ops Q rest e τ H N B a (Zfc H N b) (obS H a):=by
   unfold Zeh appE
   cases Zfc H N b with
   |none=>rfl
   |some p=>
    obtain⟨n,xc⟩:=p
    cases a<;>try rfl
    all_goals(rename_i o g off len m';simp only[obS];cases H o<;>rfl)
  rw[<- fin]
  cases bt<;>first|exact absurd rfl (hne _)|simp only[hs,hb,h2,h3,h4,hzl,true_and]
 simp at h;simp at h;simp at h
def srcK(m:Nat)(ob:AObj)(x:V):Option (Nat×List V):=
 match x with
 |.nils=>some (0,[])
 |.slice _ _ E' l=>if E'=m then some (l.length,flat l)else none
 |.msl _ g off len E'=>match ob with
  |.cells _ g' _ cs=>if E'=m/\g=g'/\off+len*m<=cs.length then some (len,(cs.drop off).take (len*m))else none
  |_=>none
 |.str s=>if m=1 then some (s.length,s.map λb=>.int .u8 b.toNat)else none
 |_=>none
theorem Zs0(H:Heap)(m:Nat)(x:V):Zfc H m x=srcK m (obS H x) x:=by
 unfold Zfc srcK
 cases x<;>rfl
theorem Zr0(m:Nat)(ob:AObj)(c:Col)(b:Bool)(E':Nat)(l:List V):srcK m ob (.slice c b E' l)=if E'=m then some (l.length,flat l)else none:=rfl
theorem Zoaa(m:Nat)(o g off len E':Nat)(c:Col)(g' fz:Nat)(cs:List V):srcK m (.cells c g' fz cs) (.msl o g off len E') =
  if E'=m/\g=g'/\off+len*m<=cs.length then some (len,(cs.drop off).take (len*m))else none:=rfl
attribute[go_sem]Zs0 Zr0 Zoaa
theorem Zjr(e m bytes n:Nat)(xc:List V)(ob:AObj):appE P E ops Q rest e τ H m bytes .nils (some (n,xc)) ob =
  (Zde bytes n/\(n=0->Zqa P E ops Q rest ⟨upd τ e .nils,H⟩)/\(n≠0->∀ g,Zqa P E ops Q rest ⟨upd τ e (.msl (E.q+e) g 0 n m),upd H (E.q+e) (.cells .new g 0 xc)⟩)):=rfl
theorem Zkp(e m bytes n:Nat)(xc:List V)(o g off len m':Nat)(c:Col)(g' fz:Nat)(cs:List V):appE P E ops Q rest e τ H m bytes (.msl o g off len m') (some (n,xc)) (.cells c g' fz cs) =
  (m'=m/\Zde bytes (len+n)/\g=g'/\off+len*m<=cs.length/\fz<=off+len*m /\
     ∀ g2,Zqa P E ops Q rest ⟨upd τ e (.msl o g2 0 (len+n) m),upd H o (.cells c.moved g2 (fz-off) ((cs.drop off).take (len*m)++xc))⟩):=rfl
theorem Zq2(v:V):Zif P E ops Q rest d τ H (some v)=Zqa P E ops Q rest (AS.put ⟨τ,H⟩ d v):=rfl
theorem Zt2(H:Heap):contH P E ops Q rest d τ (some H)=Zqa P E ops Q rest (AS.put ⟨τ,H⟩ d (.tuple [])):=rfl
theorem Zs2(e:Nat)(cs:List V):Zk8 P E ops Q rest e τ H (some cs)=∀ g,Zqa P E ops Q rest ⟨upd τ e (.ptr (E.q+e) g 0),upd H (E.q+e) (.cells .new g 0 cs)⟩:=rfl
theorem Zr2(e m len:Nat)(cs:List V):contS P E ops Q rest e τ H (some (m,len,cs))=∀ g,Zqa P E ops Q rest ⟨upd τ e (.msl (E.q+e) g 0 len m),upd H (E.q+e) (.cells .new g 0 cs)⟩:=rfl
attribute[go_sem]Zkp Zq2 Zt2 Zs2 Zr2
end
section
variable(P)(t:TypeId)(k:IntKind)(a b:Int)
theorem Z8c(op:BinOp)(h1:op ≠ .shl)(h2:op ≠ .shr):Zbi P op t (.int k a) (.int k b)=intV op k a b:=by
 simp only[Zbi];rw[if_neg (by simp[h1,h2])];simp
theorem Z2ca:Zbi P .add t (.int k a) (.int k b)=some (.int k (k.wrap (a+b))):=Z8c P t k a b .add zS zS
theorem Zsca:Zbi P .sub t (.int k a) (.int k b)=some (.int k (k.wrap (a-b))):=Z8c P t k a b .sub zS zS
theorem Zvca:Zbi P .rem t (.int k a) (.int k b)=if b=0 then none else some (.int k (a.tmod b)):=Z8c P t k a b .rem zS zS
theorem Z1ca:Zbi P .eql t (.int k a) (.int k b)=some (.bool (a==b)):=Z8c P t k a b .eql zS zS
theorem Zwca:Zbi P .neq t (.int k a) (.int k b)=some (.bool (a != b)):=Z8c P t k a b .neq zS zS
theorem Zxca:Zbi P .lss t (.int k a) (.int k b)=some (.bool (decide (a<b))):=Z8c P t k a b .lss zS zS
theorem Zyca:Zbi P .leq t (.int k a) (.int k b)=some (.bool (decide (a<=b))):=Z8c P t k a b .leq zS zS
theorem Zzca:Zbi P .gtr t (.int k a) (.int k b)=some (.bool (decide (a>b))):=Z8c P t k a b .gtr zS zS
theorem Z0ca:Zbi P .geq t (.int k a) (.int k b)=some (.bool (decide (a>=b))):=Z8c P t k a b .geq zS zS
attribute[go_sem]Z2ca Zsca Zvca Z1ca Zwca Zxca Zyca Zzca Z0ca
end
theorem Ztca(op:BinOp)(t:TypeId)(a b:List UInt8):Zbi P op t (.str a) (.str b)=strV op a b:=rfl
theorem Zlaa(a b:List UInt8):strV .eql a b=some (.bool (a==b)):=rfl
theorem Zkaa(a b:List UInt8):strV .neq a b=some (.bool (!(a==b))):=rfl
theorem unV_not(b:Bool):unV .not (.bool b)=some (.bool !b):=rfl
attribute[go_sem]Ztca Zlaa Zkaa unV_not
def fldOf(P:Program)(t:TypeId)(f:Nat):Option (Nat×Bool×Nat):=
 match P.underlying t with
 |some (.struct fs)=>match fs[f]? with
  |some fd=>match Zge P fd.type,Zbb P fd.type with
   |some b,some (n+1)=>if b=true\/n=0 then some (fd.offset,b,n+1)else none
   |_,_=>none
  |none=>none
 |_=>none
def Zoi(b:Bool)(n:Nat)(l:List V)(off:Nat):Option V:=
 if b then(if off+n<=l.length then some (.agg ((l.drop off).take n))else none)else l[off]?
@[go_sem] theorem partC_true(n:Nat)(l:List V)(off:Nat):Zoi true n l off=if off+n<=l.length then some (.agg ((l.drop off).take n))else none:=rfl
@[go_sem] theorem partC_false(n:Nat)(l:List V)(off:Nat):Zoi false n l off=l[off]? := rfl
theorem Z4e{t:TypeId}{b:Bool}{n:Nat}(h1:Zge P t=some b)(h2:Zbb P t=some n)(h3:b=true\/n=1)(l:List V)(off:Nat):Zth P t l off=Zoi b n l off:=by
 unfold Zth Zoi;rw[h1,h2]
 cases b with
 |true=>rfl
 |false=>
  rcases h3 with h3|h3
  cases h3;subst h3;rfl
def fldK(x:Option (Nat×Bool×Nat))(a:V):Option V:=
 match x,a with
 |some (k,_,_),.ptr o g off=>some (.ptr o g (off+k))
 |some (k,b,n),.view c (.agg l)=>(Zoi b n l k).map (.view c)
 |_,_=>none
@[go_sem] theorem fldK_ptr(k n:Nat)(b:Bool)(o g off:Nat):fldK (some (k,b,n)) (.ptr o g off)=some (.ptr o g (off+k)):=rfl
@[go_sem] theorem fldK_view(k n:Nat)(b:Bool)(c:Col)(l:List V):fldK (some (k,b,n)) (.view c (.agg l))=(Zoi b n l k).map (.view c):=rfl
theorem Z8q{t:TypeId}{f:Nat}{x:Nat×Bool×Nat}(h:fldOf P t f=some x)(a:V):Z3c P t a f=fldK (some x) a:=by
 unfold fldOf at h;unfold Z3c
 split at h
 rename_i fs hu;rw[hu];simp only
 split at h
 rename_i fd hf;rw[hf];simp only
 split at h
 rename_i b n h1 h2
 split at h
 .rename_i hc
  simp at h;subst h;rw[h2];simp only;unfold fldK
  cases a<;>try rfl
  rename_i c v
  cases v<;>try rfl
  rename_i l;simp only;rw[Z4e h1 h2 (hc.imp id zo)]
 simp at h;simp at h;simp at h;simp at h
def Zff(P:Program)(t:TypeId):Option Nat:=match P.underlying t with|some (.slice e)=>Zbb P e|_=>none
def Zev(P:Program)(t:TypeId):Bool:=match P.underlying t with|some .string=>true|_=>false
def Zpu(P:Program)(t:TypeId):Option (Bool×Nat):=
 match Zge P t,Zbb P t with
 |some true,some n=>some (true,n)
 |some false,some 1=>some (false,1)
 |_,_=>none
def idxK(e:Option Nat)(a i:V):Option V:=
 match e,a,i with
 |some m,.slice c _ E l,.int _ n=>if m=E/\0<=n then(l[n.toNat]?).map (.view c)else none
 |some m,.msl o g off len E,.int _ n=>if m=E/\0<=n/\n<len then some (.ptr o g (off+n.toNat*E))else none
 |_,_,_=>none
theorem Z0q{t:TypeId}{m:Nat}(h:Zff P t=some m)(a i:V):Zab P t a i=idxK (some m) a i:=by
 unfold Zff at h;unfold Zab idxK
 split at h
 .rename_i e hu
  rw[hu]
  cases i<;>try(cases a<;>rfl)
  cases a<;>try rfl
  simp only[h,Option.some.injEq];simp only[h,Option.some.injEq]
 simp at h
@[go_sem] theorem idxK_slice(m:Nat)(c:Col)(clip:Bool)(E:Nat)(l:List V)(k:IntKind)(n:Int):idxK (some m) (.slice c clip E l) (.int k n)=if m=E/\0<=n then(l[n.toNat]?).map (.view c)else none:=rfl
@[go_sem] theorem idxK_msl(m o g off len E:Nat)(k:IntKind)(n:Int):idxK (some m) (.msl o g off len E) (.int k n)=if m=E/\0<=n/\n<len then some (.ptr o g (off+n.toNat*E))else none:=rfl
def Zsz(sl:Bool)(a:V):Option V:=
 match a with
 |.nils=>if sl then some (.int .i64 0)else none
 |.slice _ _ _ l=>if sl then some (.int .i64 l.length)else none
 |.msl _ _ _ len _=>if sl then some (.int .i64 len)else none
 |.str s=>if sl then none else some (.int .i64 s.length)
 |_=>none
theorem Z81{t:TypeId}{m:Nat}(h:Zff P t=some m)(a:V):Z44 P t a=Zsz true a:=by
 unfold Zff at h;unfold Z44 Zsz
 split at h
 rename_i e hu;rw[hu]
 cases a<;>rfl
 simp at h
theorem Z3ba{t:TypeId}(h:Zev P t=true)(a:V):Z44 P t a=Zsz false a:=by
 unfold Zev at h;unfold Z44 Zsz
 split at h
 rename_i hu;rw[hu]
 cases a<;>rfl
 simp at h
theorem Zb7:Zsz true .nils=some (.int .i64 0):=rfl
theorem Z91(c:Col)(clip:Bool)(E:Nat)(l:List V):Zsz true (.slice c clip E l)=some (.int .i64 l.length):=rfl
theorem Z6ba(o g off len E:Nat):Zsz true (.msl o g off len E)=some (.int .i64 len):=rfl
theorem Z5ba(s:List UInt8):Zsz false (.str s)=some (.int .i64 s.length):=rfl
attribute[go_sem]Zb7 Z91 Z6ba Z5ba
def Zwj(x:Option (Bool×Nat))(ob:AObj)(a:V):Option V:=
 match x,a with
 |some (b,n),.ptr _ g off=>match ob with
  |.cells _ g' _ cs=>if g=g' then Zoi b n cs off else none
  |_=>none
 |some (b,n),.view _ v=>match v,b with
  |.agg l,true=>if n=l.length then some (.agg l)else none
  |.agg _,false=>none
  |.top,_=>none
  |.tuple _,_=>none
  |_,true=>none
  |v,false=>some v
 |_,_=>none
def obOf(H:Heap)(a:V):AObj:=match a with|.ptr o _ _=>H o|_=>.dead
theorem readV_K{t:TypeId}{b:Bool}{n:Nat}(h:Zpu P t=some (b,n))(H:Heap)(a:V):Zfb P H t a=Zwj (some (b,n)) (obOf H a) a:=by
 unfold Zpu at h
 have hh:Zge P t=some b/\Zbb P t=some n/\(b=true\/n=1):=by
  split at h<;>simp at h<;>obtain⟨rfl,rfl⟩:=h<;>rename_i h1 h2
  exact⟨h1,h2,.inl rfl⟩;exact⟨h1,h2,.inr rfl⟩
 obtain⟨h1,h2,h3⟩:=hh;unfold Zfb
 cases a<;>try(simp[Zkb,Zwj];done)
 rename_i c v;simp only[Zkb,Zwj,h1,h2]
 cases b<;>cases v<;>simp
 .rename_i o g off
  simp only[Zwj,obOf]
  cases H o with
  |dead=>rfl
  |mp=>rfl
  |lp=>rfl
  |cells c g' fz cs=>
   simp only;rw[Z4e h1 h2 h3]
theorem Zvba(H:Heap)(o g off:Nat):obOf H (.ptr o g off)=H o:=rfl
theorem Z66(b:Bool)(n o g off:Nat)(c:Col)(g' fz:Nat)(cs:List V):Zwj (some (b,n)) (.cells c g' fz cs) (.ptr o g off)=if g=g' then Zoi b n cs off else none:=rfl
theorem Z96(n:Nat)(ob:AObj)(c:Col)(l:List V):Zwj (some (true,n)) ob (.view c (.agg l))=if n=l.length then some (.agg l)else none:=rfl
theorem Z76(n:Nat)(ob:AObj)(c:Col)(k:IntKind)(i:Int):Zwj (some (false,n)) ob (.view c (.int k i))=some (.int k i):=rfl
theorem Z56(n:Nat)(ob:AObj)(c:Col)(s:List UInt8):Zwj (some (false,n)) ob (.view c (.str s))=some (.str s):=rfl
theorem Z61(n:Nat)(ob:AObj)(c:Col)(fn:Fn)(a b:List V):Zwj (some (false,n)) ob (.view c (.func fn a b))=some (.func fn a b):=rfl
attribute[go_sem]Zvba Z66 Z96 Z76 Z56 Z61
def Zl5(sz:Option Nat)(H:Heap)(ob:AObj)(a v:V):Option Heap:=
 match a,ob with
 |.ptr o g off,.cells c g' fz cs=>if g=g'/\v.solid=true/\sz=some v.cells.length/\fz<=off/\off+v.cells.length<=cs.length then some (upd H o (.cells c g fz (setAt cs off v.cells)))else none
 |_,_=>none
theorem Zmaa(H:Heap)(t:TypeId)(a v:V):Zdj P H t a v=Zl5 (Zbb P t) H (obOf H a) a v:=by
 unfold Zdj Zl5
 cases a<;>try rfl
 rename_i o g off;simp only[obOf]
 cases H o<;>rfl
theorem Zo0(sz:Option Nat)(H:Heap)(o g off:Nat)(c:Col)(g' fz:Nat)(cs:List V)(v:V):Zl5 sz H (.cells c g' fz cs) (.ptr o g off) v =
  if g=g'/\v.solid=true/\sz=some v.cells.length/\fz<=off/\off+v.cells.length<=cs.length then some (upd H o (.cells c g fz (setAt cs off v.cells)))else none:=rfl
theorem Z25(cs:List V)(off:Nat):setAt cs off []=cs:=rfl
theorem Zz0(cs:List V)(off:Nat)(v:V)(r:List V):setAt cs off (v::r)=setAt (cs.set off v) (off+1) r:=rfl
attribute[go_sem]Zmaa Zo0 Z25 Zz0
section
theorem Zer(l:List V):(V.agg l).cells=l:=rfl
theorem Zs8(k:IntKind)(n:Int):(V.int k n).cells=[.int k n]:=rfl
theorem Zq8(s:List UInt8):(V.str s).cells=[.str s]:=rfl
theorem Zr8(o g off len E:Nat):(V.msl o g off len E).cells=[.msl o g off len E]:=rfl
theorem Zx2(fn:Fn)(a b:List V):(V.func fn a b).cells=[.func fn a b]:=rfl
theorem Zt5(l:List V):(V.agg l).solid=true:=rfl
theorem Zr5(k:IntKind)(n:Int):(V.int k n).solid=true:=rfl
theorem Zp5(s:List UInt8):(V.str s).solid=true:=rfl
theorem Zq5(o g off len E:Nat):(V.msl o g off len E).solid=true:=rfl
theorem Zv0(fn:Fn)(a b:List V):(V.func fn a b).solid=true:=rfl
theorem Zqaa(v:V):Zu5 v=if v.solid then some v.cells else none:=rfl
theorem Z65(z:List V):Ztp 0 z=[]:=rfl
theorem Z75(n:Nat)(z:List V):Ztp (n+1) z=z++Ztp n z:=rfl
attribute[go_sem]Zer Zs8 Zq8 Zr8 Zx2 Zt5 Zr5 Zp5 Zq5 Zv0 Zqaa Z65 Z75
end
section
variable(P)(t:TypeId)
def Zke(P:Program)(t:TypeId):Nat:=
 match P.underlying t with
 |some (.pointer _)=>1
 |some (.slice _)=>2
 |some (.func _ _ _)=>3
 |some (.interface _)=>4
 |some (.map _ _)=>5
 |_=>0
def Z34(k:Nat)(a:V):Option Bool:=
 match a with
 |.nilp=>if k=1 then some true else none
 |.view _ _=>if k=1 then some false else none
 |.ptr _ _ _=>if k=1 then some false else none
 |.nils=>if k=2 then some true else none
 |.slice _ _ _ _=>if k=2 then some false else none
 |.msl _ _ _ _ _=>if k=2 then some false else none
 |.nilf=>if k=3 then some true else none
 |.func _ _ _=>if k=3 then some false else none
 |.iface _ _=>if k=4 then some false else none
 |.nilm=>if k=5 then some true else none
 |_=>none
theorem nilB_K(a:V):Z49 P t a=Z34 (Zke P t) a:=by
 unfold Z49 Zke
 cases h:P.underlying t with
 |none=>cases a<;>rfl
 |some u=>cases u<;>cases a<;>rfl
def Zee(k:Nat):V:=if k=1 then .nilp else if k=2 then .nils else if k=3 then .nilf else if k=4 then .nili else .nilm
theorem eqV_nil{k:Nat}(h:Zke P t=k)(hk:k≠0)(a:V):eqV P t a (Zee k)=Z34 k a:=by
 have hf:Zrg P t (Zee k)=true:=by
  subst h;unfold Zrg Zee Zke at *
  cases hu:P.underlying t with
  |none=>rw[hu]at hk;exact absurd rfl hk
  |some u=>rw[hu]at hk;cases u<;>first|rfl|exact absurd rfl hk
 have hb:∀ x,Zee k ≠ .bool x:=by
  intro x;unfold Zee
  repeat' split
  all_goals exact λh=>by cases h
 rw[<- h,<- nilB_K];unfold eqV
 split
 rename_i x y e;rw[h]at e;exact absurd e (hb _);rw[h,if_pos hf]
theorem Zai{k:Nat}(h:Zke P t=k)(hk:k≠0)(a:V):Zbi P .eql t a (Zee k)=(Z34 k a).map .bool/\Zbi P .neq t a (Zee k)=(Z34 k a).map λr=>.bool (!r):=by
 rw[<- eqV_nil P t h hk]
 have h1:∀ k' n,Zee k ≠ .int k' n:=by
  intro k' n;unfold Zee
  repeat' split
  all_goals exact λh=>by cases h
 have h2:∀ l,Zee k ≠ .str l:=by
  intro l;unfold Zee
  repeat' split
  all_goals exact λh=>by cases h
 have h3:∀ l,Zee k ≠ .agg l:=by
  intro l;unfold Zee
  repeat' split
  all_goals exact λh=>by cases h
 generalize Zee k=b at *;unfold Zbi
 constructor
 split
 exact absurd rfl (h1 _ _);exact absurd rfl (h2 _);exact absurd rfl (h3 _);rfl
 split
 exact absurd rfl (h1 _ _);exact absurd rfl (h2 _);exact absurd rfl (h3 _);rfl
@[go_sem] theorem nilK_nils:Z34 2 .nils=some true:=rfl
@[go_sem] theorem nilK_slice(c:Col)(b:Bool)(m:Nat)(l:List V):Z34 2 (.slice c b m l)=some false:=rfl
end
def bsK(m:Nat)(z:List V)(len:Nat)(parts:List (Nat×V)):Option (Nat×Nat×List V):=
 if len*m<=16777216 then(Zuc (λi=>some (i*m,m)) (Ztp len z) parts).map λcs=>(m,len,cs)else none
theorem Zw8{P:Program}{t e:TypeId}{m:Nat}{z:List V}(h1:P.underlying t=some (.slice e))(h2:Zbb P e=some m)(h3:Zwc P e=some z)(h4:z.length=m)(len:Nat)(parts:List (Nat×V)):
  Z3l P t len parts=bsK m z len parts:=by
 unfold Z3l bsK;simp only[h1,h2,h3,h4,true_and]
def mulP(m:Nat):Nat->Option (Nat×Nat):=λi=>some (i*m,m)
def tblP(tbl:List (Nat×Nat)):Nat->Option (Nat×Nat):=λi=>tbl[i]?
theorem bsK_lit(m:Nat)(z:List V)(len:Nat)(parts:List (Nat×V)):bsK m z len parts=if len*m<=16777216 then(Zuc (mulP m) (Ztp len z) parts).map λcs=>(m,len,cs)else none:=rfl
theorem Zy7(p:Nat->Option (Nat×Nat))(cells:List V):Zuc p cells []=some cells:=rfl
theorem Zz7(m:Nat)(cells:List V)(i:Nat)(v:V)(rest:List (Nat×V)):Zuc (mulP m) cells ((i,v)::rest) =
  if v.solid=true/\v.cells.length=m/\i*m+m<=cells.length then Zuc (mulP m) (setAt cells (i*m) v.cells) rest else none:=rfl
attribute[go_sem]bsK_lit Zy7 Zz7
def fillT(tbl:List (Nat×Nat))(p:Option (Nat×Nat))(cells:List V)(v:V)(rest:List (Nat×V)):Option (List V):=
 match p with
 |none=>none
 |some (off,size)=>if v.solid=true/\v.cells.length=size/\off+size<=cells.length then Zuc (tblP tbl) (setAt cells off v.cells) rest else none
@[go_sem] theorem fillV_tbl(tbl:List (Nat×Nat))(cells:List V)(i:Nat)(v:V)(rest:List (Nat×V)):Zuc (tblP tbl) cells ((i,v)::rest)=fillT tbl (tbl[i]?) cells v rest:=rfl
@[go_sem] theorem fillT_some(tbl:List (Nat×Nat))(off size:Nat)(cells:List V)(v:V)(rest:List (Nat×V)):fillT tbl (some (off,size)) cells v rest =
  if v.solid=true/\v.cells.length=size/\off+size<=cells.length then Zuc (tblP tbl) (setAt cells off v.cells) rest else none:=rfl
def tblOf(P:Program)(t:TypeId):Option (List (Nat×Nat)):=
 match P.underlying t with
 |some (.struct fs)=>fs.toList.mapM λf=>(Zbb P f.type).map λn=>(f.offset,n)
 |_=>none
theorem Zpz{α β : Type}{f : α -> Option β}:∀ {l:List α} {r:List β},l.mapM f=some r->(l.all λx=>(f x).isSome)=true/\∀ i:Nat,r[i]?=(l[i]?).bind f
 |[],r,h=>by
  simp at h;subst h;exact⟨rfl,λi=>zS⟩
 |x::l,r,h=>by
  simp only[List.mapM_cons,Option.bind_eq_bind,Option.bind_eq_some_iff,Option.pure_def,Option.some.injEq]at h;obtain⟨y,hy,ys,hys,rfl⟩:=h;obtain⟨h1,h2⟩:=Zpz hys;refine⟨by simp[hy];simpa using h1,λi=>?_⟩
  cases i with
  |zero=>simp[hy]
  |succ i=>simpa using h2 i
theorem Z1z{P:Program}{t:TypeId}{tbl:List (Nat×Nat)}{z:List V}(h1:tblOf P t=some tbl)(h2:Zae P t=some (.agg z))(parts:List (Nat×V)):
  Zie P t parts=(Zuc (tblP tbl) z parts).map .agg:=by
 unfold tblOf at h1
 cases hu:P.underlying t with
 |none=>rw[hu]at h1;cases h1
 |some k=>
  rw[hu]at h1
  cases k<;>simp only[reduceCtorEq]at h1
  rename_i fs;obtain⟨h3,h4⟩:=Zpz h1;unfold Zie;rw[hu,h2];have h5:(fs.toList.all λf=>(Zbb P f.type).isSome)=true:=zu h3;simp only[h5,Bool.true_and]
  have e:(λi=>(fs[i]?).bind λf=>(Zbb P f.type).map λn=>(f.offset,n))=tblP tbl:=by
   funext i
   have:=h4 i;unfold tblP;rw[this];simp
  rw[e];rfl
def slJ(i j:Option Nat)(f:Nat->Nat->Option V):Option V:=match i,j with|some i,some j=>f i j|_,_=>none
theorem Z8y(i j:Nat)(f:Nat->Nat->Option V):slJ (some i) (some j) f=f i j:=rfl
theorem Z5l(d:Nat):Zba d none=some d:=rfl
theorem Z02(d:Nat)(k:IntKind)(n:Int):Zba d (some (.int k n))=if 0<=n then some n.toNat else none:=rfl
attribute[go_sem]Z8y Z5l Z02
def slK(m:Nat)(a:V)(lo hi:Option V):Option V:=
 match a with
 |.slice c clip E l=>slJ (Zba 0 lo) (Zba l.length hi) λi j=>if m=E/\i<=j/\j<=l.length then some (.slice c (clip&&j==l.length) E ((l.drop i).take (j-i)))else none
 |.msl o g off len E=>slJ (Zba 0 lo) (Zba len hi) λi j=>
   if m=E/\i<=j/\j<=len then some (if i=0 then .msl o g off j E else if i<j then .msl o g (off+i*E) (j-i) E else .slice .any false E [])else none
 |.nils=>slJ (Zba 0 lo) (Zba 0 hi) λi j=>if i=0/\j=0 then some .nils else none
 |_=>none
theorem Z2j{t:TypeId}{m:Nat}(h:Zff P t=some m)(a:V)(lo hi:Option V):Zpe P t a lo hi none=slK m a lo hi:=by
 unfold Zff at h;unfold Zpe slK
 split at h
 .rename_i e hu
  rw[hu]
  cases a<;>try rfl
  .simp only[h,Option.isSome_some,if_true]
   cases h1:Zba 0 lo with
   |none=>rfl
   |some i=>
    cases h2:Zba 0 hi with
    |none=>cases i<;>rfl
    |some j=>
     simp only[Z5l,Z8y]
     cases i with
     |zero=>cases j<;>rfl
     |succ i=>rw[if_neg zS];rfl
  .rename_i c clip E l
   simp only[h,Option.some.injEq]
   cases Zba 0 lo with
   |none=>rfl
   |some i=>
    cases Zba l.length hi with
    |none=>rfl
    |some j=>rfl
  .rename_i o g off len E
   simp only[h,Option.some.injEq]
   cases Zba 0 lo with
   |none=>rfl
   |some i=>
    cases Zba len hi with
    |none=>rfl
    |some j=>rfl
 simp at h
@[go_sem] theorem slK_msl(m o g off len E:Nat)(lo hi:Option V):slK m (.msl o g off len E) lo hi =
  slJ (Zba 0 lo) (Zba len hi) λi j=>if m=E/\i<=j/\j<=len then some (if i=0 then .msl o g off j E else if i<j then .msl o g (off+i*E) (j-i) E else .slice .any false E [])else none:=rfl
@[go_sem] theorem slK_nils(m:Nat)(lo hi:Option V):slK m .nils lo hi=slJ (Zba 0 lo) (Zba 0 hi) λi j=>if i=0/\j=0 then some .nils else none:=rfl
theorem Znca{s d:TypeId}{kd:IntKind}(h1:(P.underlying s).isSome=true)(h2:P.underlying d=some (.int kd))(k:IntKind)(n:Int):Zov P s d (.int k n)=some (.int kd (kd.wrap n)):=by
 unfold Zov;rw[h2]
 cases h:P.underlying s with
 |none=>rw[h]at h1;cases h1
 |some t=>rfl
end
end Go.Hs
