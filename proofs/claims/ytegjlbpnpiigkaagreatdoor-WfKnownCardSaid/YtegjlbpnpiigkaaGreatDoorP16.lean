/- A part. No condition. -/
import Derived.Test.YtegjlbpnpiigkaaGreatDoorP15
import Derived.Attr
set_option linter.all false
namespace Go.Hs
section
variable{P:Program}{E:Ent}
def Z6r{α : Type}(o:Option α)(K : α -> Prop):Prop:=match o with|some v=>K v|none=>False
def Zkh(P:Program)(E:Ent)(ops:Array Oper)(Q:AS->Prop)(rest:List Oper)(d:Option Nat)(τ : Nat->V)(H:Heap)(o:Option V):Prop:=Z6r o λv=>Zlb P E ops Q rest (AS.put ⟨τ,H⟩ d v)
def contH(P:Program)(E:Ent)(ops:Array Oper)(Q:AS->Prop)(rest:List Oper)(d:Option Nat)(τ : Nat->V)(o:Option Heap):Prop:=Z6r o λH=>Zlb P E ops Q rest (AS.put ⟨τ,H⟩ d (.tuple []))
def Zkja(P:Program)(E:Ent)(ops:Array Oper)(Q:AS->Prop)(rest:List Oper)(e:Nat)(τ : Nat->V)(H:Heap)(o:Option (List V)):Prop:=
 Z6r o λcs=>∀ g,Zlb P E ops Q rest ⟨upd τ e (.ptr (E.q+e) g 0),upd H (E.q+e) (.cells .new g 0 cs)⟩
def Zjca(P:Program)(E:Ent)(ops:Array Oper)(Q:AS->Prop)(rest:List Oper)(e:Nat)(τ : Nat->V)(H:Heap)(o:Option (Nat×Nat×List V)):Prop:=
 Z6r o λc=>∀ g,Zlb P E ops Q rest ⟨upd τ e (.msl (E.q+e) g 0 c.2.1 c.1),upd H (E.q+e) (.cells .new g 0 c.2.2)⟩
theorem Zvfa{α : Type}(f:Nat -> α)(k:Nat)(x : α)(n:Nat):upd f k x n=if n=k then x else f n:=rfl
theorem ev_tmp(τ : Nat->V)(H:Heap)(t:Nat):AS.ev E ⟨τ,H⟩ (.tmp t) = τ t:=rfl
theorem ev_int(τ : Nat->V)(H:Heap)(k:IntKind)(n:Int):AS.ev E ⟨τ,H⟩ (.const (.int k n))=.int k n:=rfl
theorem ev_bool(τ : Nat->V)(H:Heap)(b:Bool):AS.ev E ⟨τ,H⟩ (.const (.bool b))=.bool b:=rfl
theorem ev_str(τ : Nat->V)(H:Heap)(s:ByteArray):AS.ev E ⟨τ,H⟩ (.const (.string s))=.str s.data.toList:=rfl
theorem ev_nils(τ : Nat->V)(H:Heap):AS.ev E ⟨τ,H⟩ (.const (.slice none 0 0))=.nils:=rfl
theorem ev_nilp(τ : Nat->V)(H:Heap):AS.ev E ⟨τ,H⟩ (.const (.pointer none))=.nilp:=rfl
theorem ev_func(τ : Nat->V)(H:Heap)(f:FuncId):AS.ev E ⟨τ,H⟩ (.func f)=.func (.func f) [] []:=rfl
theorem Z7ia(τ : Nat->V)(H:Heap)(g:Nat):AS.ev E ⟨τ,H⟩ (.global g)=E.G g:=rfl
theorem Z0ma(τ : Nat->V)(H:Heap)(d:Nat)(v:V):AS.put ⟨τ,H⟩ (some d) v=⟨upd τ d v,H⟩:=rfl
theorem Z1ma(τ : Nat->V)(H:Heap)(v:V):AS.put ⟨τ,H⟩ none v=⟨τ,H⟩:=rfl
theorem Zzca(k:Nat)(v:V)(r:List V):Z6i k (v::r)=upd (Z6i (k+1) r) k v:=rfl
attribute[go_sem]Zvfa ev_tmp ev_int ev_bool ev_str ev_nils ev_nilp ev_func Z7ia Z0ma Z1ma Zzca
attribute [go_sem] List.map_cons List.map_nil List.length_cons List.length_nil List.getElem?_cons_zero List.getElem?_cons_succ List.drop_succ_cons List.drop_zero List.take_succ_cons List.take_zero
 List.set_cons_zero List.set_cons_succ List.append_nil List.nil_append List.cons_append Option.map_some Option.map_none Nat.zero_add Nat.add_zero Int.toNat_natCast and_true true_and Bool.not_true Bool.not_false
 and_self Int.natCast_nonneg Bool.false_eq_true Bool.true_eq_false eq_self if_true if_false ne_eq not_true_eq_false not_false_eq_true false_implies true_implies Option.bind_some forall_const
section
variable{ops:Array Oper}{Q:AS->Prop}{rest:List Oper}{τ : Nat->V}{H:Heap}{d:Option Nat}{ty:TypeId}{pos:String}{af:Array Edge}
@[go_sem] theorem Zmt(s:AS):Zlb P E ops Q [] s=Q s:=rfl
def Z0h(b:Option Bool)(K0 K1:Prop):Prop:=match b with|some true=>K1|some false=>K0|none=>False
@[congr] theorem Zdpa{b b':Option Bool}{K0 K1:Prop}(h:b=b'):Z0h b K0 K1=Z0h b' K0 K1:=by rw[h]
@[go_sem] theorem Zkf(K0 K1:Prop):Z0h (some true) K0 K1=K1:=rfl
@[go_sem] theorem Zcpa(K0 K1:Prop):Z0h (some false) K0 K1=K0:=rfl
def Zvp(v:V)(want:Bool):Option Bool:=
 match v with
 |.bool b=>some (b==want)
 |.tuple []=>some false
 |_=>none
theorem Zv2(b:Bool):Zvp (.bool b) true=some b:=by cases b<;>rfl
theorem Zsw(b:Bool):Zvp (.bool b) false=some (!b):=by cases b<;>rfl
theorem Zrw(want:Bool):Zvp (.tuple []) want=some false:=rfl
attribute[go_sem]Zv2 Zsw Zrw
def Zek(l:List Oper)(j:Nat):Option Nat:=(l[j]?).bind (·.dst)
@[go_sem] theorem slotAt_zero(o:Oper)(l:List Oper):Zek (o::l) 0=o.dst:=rfl
@[go_sem] theorem slotAt_succ(o:Oper)(l:List Oper)(j:Nat):Zek (o::l) (j+1)=Zek l j:=rfl
def Zwj(v:Option V)(want:Bool):Option Bool:=match v with|some v=>Zvp v want|none=>some false
@[go_sem] theorem Zepa(v:V)(want:Bool):Zwj (some v) want=Zvp v want:=rfl
theorem Zmk(s:AS)(o:Oper):Zlb P E ops Q (o::rest) s=Z0h (Zaa ops s.τ o) (Zlb P E ops Q rest (s.put o.dst (.tuple []))) (Zwa P E s o λv H'=>Zlb P E ops Q rest (AS.put { s with H:=H' } o.dst v)):=by
 simp only[Zlb,Z0h]
 cases Zaa ops s.τ o with
 |none=>rfl
 |some b=>cases b<;>rfl
@[go_sem] theorem opsA_guard(l:List Oper)(op:Op)(j:Nat)(want:Bool):
  Zlb P E ⟨l⟩ Q (⟨d,op,ty,pos,af,some (j,want)⟩::rest) ⟨τ,H⟩ =
   Z0h (Zwj ((Zek l j).map τ) want) (Zlb P E ⟨l⟩ Q rest (AS.put ⟨τ,H⟩ d (.tuple []))) (Zlb P E ⟨l⟩ Q (⟨d,op,ty,pos,af,none⟩::rest) ⟨τ,H⟩):=by
 rw[Zmk,Zmk];have e1:Zaa ⟨l⟩ τ ⟨d,op,ty,pos,af,none⟩=some true:=rfl
 have e2:Zaa ⟨l⟩ τ ⟨d,op,ty,pos,af,some (j,want)⟩=Zwj ((Zek l j).map τ) want:=by
  unfold Zaa Zek;simp only[List.getElem?_toArray]
  cases(l[j]?).bind (·.dst)with
  |none=>rfl
  |some e=>
   simp only[Option.map_some,Zwj,Zvp];generalize τ e=v
   cases v<;>rfl
 rw[e1,e2];simp only[Zkf];rfl
variable(ops)
theorem Zac(op:Op)(hs:∀ K,Zwa P E ⟨τ,H⟩ ⟨d,op,ty,pos,af,none⟩ K=(match opV P (AS.ev E ⟨τ,H⟩) ⟨d,op,ty,pos,af,none⟩with|some v=>K v H|none=>False)):
  Zlb P E ops Q (⟨d,op,ty,pos,af,none⟩::rest) ⟨τ,H⟩=Zkh P E ops Q rest d τ H (opV P (AS.ev E ⟨τ,H⟩) ⟨d,op,ty,pos,af,none⟩):=by
 rw[Zmk];have e1:Zaa ops (⟨τ,H⟩:AS).τ ⟨d,op,ty,pos,af,none⟩=some true:=rfl;rw[e1,Zkf,hs];unfold Zkh Z6r
 cases opV P (AS.ev E ⟨τ,H⟩) ⟨d,op,ty,pos,af,none⟩<;>rfl
@[go_sem] theorem opsA_move(x:Operand):Zlb P E ops Q (⟨d,.move x,ty,pos,af,none⟩::rest) ⟨τ,H⟩=Zlb P E ops Q rest (AS.put ⟨τ,H⟩ d (AS.ev E ⟨τ,H⟩ x)):=Zac ops _ λ_=>rfl
@[go_sem] theorem opsA_assign(x:Operand):Zlb P E ops Q (⟨d,.assign x,ty,pos,af,none⟩::rest) ⟨τ,H⟩=Zlb P E ops Q rest (AS.put ⟨τ,H⟩ d (AS.ev E ⟨τ,H⟩ x)):=Zac ops _ λ_=>rfl
def Z4ma(c a b:V):Option V:=match c with|.bool true=>some a|.bool false=>some b|_=>none
theorem Z6aa(a b:V):Z4ma (.bool true) a b=some a:=rfl
theorem Z91(a b:V):Z4ma (.bool false) a b=some b:=rfl
theorem Za2(c a b:Bool):Z4ma (.bool c) (.bool a) (.bool b)=some (.bool (if c then a else b)):=by cases c<;>rfl
theorem Zjha(c a b:Operand):Zlb P E ops Q (⟨d,.pick c a b,ty,pos,af,none⟩::rest) ⟨τ,H⟩ =
  Zkh P E ops Q rest d τ H (Z4ma (AS.ev E ⟨τ,H⟩ c) (AS.ev E ⟨τ,H⟩ a) (AS.ev E ⟨τ,H⟩ b)):=Zac ops _ λ_=>rfl
theorem Ziba(op:BinOp)(t:TypeId)(x y:Operand)(u:TypeId):Zlb P E ops Q (⟨d,.binOp op t x y u,ty,pos,af,none⟩::rest) ⟨τ,H⟩ =
  Zkh P E ops Q rest d τ H (Zlh P op t (AS.ev E ⟨τ,H⟩ x) (AS.ev E ⟨τ,H⟩ y)):=Zac ops _ λ_=>rfl
theorem Ziha(op:UnOp)(t:TypeId)(x:Operand):Zlb P E ops Q (⟨d,.unOp op t x,ty,pos,af,none⟩::rest) ⟨τ,H⟩ =
  Zkh P E ops Q rest d τ H (unV op (AS.ev E ⟨τ,H⟩ x)):=Zac ops _ λ_=>rfl
theorem Zew(t u:TypeId)(x:Operand):Zlb P E ops Q (⟨d,.convert t u x,ty,pos,af,none⟩::rest) ⟨τ,H⟩ =
  Zkh P E ops Q rest d τ H (Z8w P t u (AS.ev E ⟨τ,H⟩ x)):=Zac ops _ λ_=>rfl
attribute[go_sem]Z6aa Z91 Za2 Zjha Ziba Ziha Zew
def Zc9(t:V)(i:Nat):Option V:=match t with|.tuple vs=>vs[i]? |_=>none
theorem Zgr(vs:List V)(i:Nat):Zc9 (.tuple vs) i=vs[i]? := rfl
theorem Zdw(x:Operand)(i:Nat):Zlb P E ops Q (⟨d,.extract x i,ty,pos,af,none⟩::rest) ⟨τ,H⟩ =
  Zkh P E ops Q rest d τ H (Zc9 (AS.ev E ⟨τ,H⟩ x) i):=Zac ops _ λ_=>rfl
theorem Zcr(t:TypeId)(x:Operand)(f:Nat):Zlb P E ops Q (⟨d,.fieldAddr t x f,ty,pos,af,none⟩::rest) ⟨τ,H⟩ =
  Zkh P E ops Q rest d τ H (Z8d P t (AS.ev E ⟨τ,H⟩ x) f):=Zac ops _ λ_=>rfl
theorem Zbr(t:TypeId)(x i:Operand):Zlb P E ops Q (⟨d,.indexAddr t x i,ty,pos,af,none⟩::rest) ⟨τ,H⟩ =
  Zkh P E ops Q rest d τ H (Z3b P t (AS.ev E ⟨τ,H⟩ x) (AS.ev E ⟨τ,H⟩ i)):=Zac ops _ λ_=>rfl
theorem Zgba(t:TypeId)(x i:Operand):Zlb P E ops Q (⟨d,.index t x i,ty,pos,af,none⟩::rest) ⟨τ,H⟩ =
  Zkh P E ops Q rest d τ H (Zyh P t (AS.ev E ⟨τ,H⟩ x) (AS.ev E ⟨τ,H⟩ i)):=Zac ops _ λ_=>rfl
theorem Zfba(t:TypeId)(x:Operand)(lo hi mx:Option Operand):Zlb P E ops Q (⟨d,.slice t x lo hi mx,ty,pos,af,none⟩::rest) ⟨τ,H⟩ =
  Zkh P E ops Q rest d τ H (Zaf P t (AS.ev E ⟨τ,H⟩ x) (lo.map (AS.ev E ⟨τ,H⟩)) (hi.map (AS.ev E ⟨τ,H⟩)) (mx.map (AS.ev E ⟨τ,H⟩))):=Zac ops _ λ_=>rfl
theorem Zhba(t:TypeId)(l:List (Nat×Operand)):Zlb P E ops Q (⟨d,.build t ⟨l⟩,ty,pos,af,none⟩::rest) ⟨τ,H⟩ =
  Zkh P E ops Q rest d τ H (Zag P t (l.map λp=>(p.1,AS.ev E ⟨τ,H⟩ p.2))):=Zac ops _ λ_=>rfl
theorem Znt(fn:Fn)(l m:List Operand):Zlb P E ops Q (⟨d,.makeFunc fn ⟨l⟩ ⟨m⟩,ty,pos,af,none⟩::rest) ⟨τ,H⟩ =
  Zlb P E ops Q rest (AS.put ⟨τ,H⟩ d (.func fn (l.map (AS.ev E ⟨τ,H⟩)) (m.map (AS.ev E ⟨τ,H⟩)))):=Zac ops _ λ_=>rfl
theorem Zlna(k k':IntKind)(x y:Int):maxL [.int k x,.int k' y]=some (.int k (if y>x then y else x)):=rfl
theorem Zmba(k k' k'':IntKind)(x y z:Int):maxL [.int k x,.int k' y,.int k'' z]=some (.int k (if z>(if y>x then y else x)then z else(if y>x then y else x))):=rfl
theorem Z9ma(l:List Operand)(ats:List TypeId):Zlb P E ops Q (⟨d,.call ⟨.builtin .max,⟨l⟩,⟨ats⟩⟩,ty,pos,af,none⟩::rest) ⟨τ,H⟩ =
  Zkh P E ops Q rest d τ H (maxL (l.map (AS.ev E ⟨τ,H⟩))):=Zac ops _ λ_=>rfl
theorem Zana(x:Operand)(t:TypeId):Zlb P E ops Q (⟨d,.call ⟨.builtin .len,⟨[x]⟩,⟨[t]⟩⟩,ty,pos,af,none⟩::rest) ⟨τ,H⟩ =
  Zkh P E ops Q rest d τ H (lenV P t (AS.ev E ⟨τ,H⟩ x)):=Zac ops _ λ_=>rfl
theorem Zlt(x:Operand):Zlb P E ops Q (⟨d,.nilCheck x,ty,pos,af,none⟩::rest) ⟨τ,H⟩ =
  Zkh P E ops Q rest d τ H (opV P (AS.ev E ⟨τ,H⟩) ⟨d,.nilCheck x,ty,pos,af,none⟩):=Zac ops _ λ_=>rfl
attribute[go_sem]Zgr Zdw Zcr Zbr Zgba Zfba Zhba Znt Zlna Zmba Z9ma Zana Zlt
theorem Zfc(op:Op):Zlb P E ops Q (⟨d,op,ty,pos,af,none⟩::rest) ⟨τ,H⟩=Zwa P E ⟨τ,H⟩ ⟨d,op,ty,pos,af,none⟩ λv H'=>Zlb P E ops Q rest (AS.put ⟨τ,H'⟩ d v):=by
 rw[Zmk];rfl
@[go_sem] theorem opsA_load(t:TypeId)(x:Operand):Zlb P E ops Q (⟨d,.load t x,ty,pos,af,none⟩::rest) ⟨τ,H⟩ =
  Zkh P E ops Q rest d τ H (Z9b P H t (AS.ev E ⟨τ,H⟩ x)):=by
 rw[Zfc];simp only[Zwa,Zkh,Z6r]
 cases Z9b P H t (AS.ev E ⟨τ,H⟩ x)<;>rfl
@[go_sem] theorem opsA_store(t:TypeId)(p x:Operand):Zlb P E ops Q (⟨d,.store t p x,ty,pos,af,none⟩::rest) ⟨τ,H⟩ =
  contH P E ops Q rest d τ (Zsm P H t (AS.ev E ⟨τ,H⟩ p) (AS.ev E ⟨τ,H⟩ x)):=by
 rw[Zfc];simp only[Zwa,contH,Z6r]
 cases Zsm P H t (AS.ev E ⟨τ,H⟩ p) (AS.ev E ⟨τ,H⟩ x)<;>rfl
def Zxc(P:Program)(t:TypeId):Option (List V):=(Z8e P t).bind λz=>if z.solid then some z.cells else none
@[go_sem] theorem opsA_alloc(t:TypeId)(e:Nat):Zlb P E ops Q (⟨some e,.alloc t,ty,pos,af,none⟩::rest) ⟨τ,H⟩ =
  Zkja P E ops Q rest e τ H (Zxc P t):=by
 rw[Zfc];simp only[Zwa,Zxc,Zkja]
 cases Z8e P t with
 |none=>rfl
 |some z=>
  simp only[Option.bind_some]
  cases hz:z.solid with
  |false=>simp[Z6r]
  |true=>simp[Z6r,AS.put]
def Zgga(v:V):Option (List V):=if v.solid then some v.cells else none
@[go_sem] theorem opsA_box(t:TypeId)(x:Operand)(e:Nat):Zlb P E ops Q (⟨some e,.box t x,ty,pos,af,none⟩::rest) ⟨τ,H⟩ =
  Zkja P E ops Q rest e τ H (Zgga (AS.ev E ⟨τ,H⟩ x)):=by
 rw[Zfc];simp only[Zwa,Zgga,Zkja]
 cases hz:(AS.ev E ⟨τ,H⟩ x).solid with
 |false=>simp[Z6r]
 |true=>simp[Z6r,AS.put]
def Zeq(P:Program)(t:TypeId)(len:Nat)(parts:List (Nat×V)):Option (Nat×Nat×List V):=
 match P.underlying t with
 |some (.slice e)=>match Znb P e,Zxc P e with
  |some E,some z=>if z.length=E/\len*E<=16777216 then(Zzd (λi=>some (i*E,E)) (Z3o len z) parts).map λcs=>(E,len,cs)else none
  |_,_=>none
 |_=>none
@[go_sem] theorem Zkha(t:TypeId)(len e:Nat)(l:List (Nat×Operand)):Zlb P E ops Q (⟨some e,.buildSlice t len ⟨l⟩,ty,pos,af,none⟩::rest) ⟨τ,H⟩ =
  Zjca P E ops Q rest e τ H (Zeq P t len (l.map λp=>(p.1,AS.ev E ⟨τ,H⟩ p.2))):=by
 rw[Zfc];simp only[Zwa,Zmd,Zeq,Zxc,Zjca]
 cases P.underlying t with
 |none=>rfl
 |some k=>
  cases k<;>try rfl
  rename_i e';simp only
  cases Znb P e' with
  |none=>rfl
  |some n=>
   cases Z8e P e' with
   |none=>rfl
   |some z=>
    simp only[Option.bind_some]
    cases hz:z.solid with
    |false=>simp[Z6r]
    |true=>
     simp only[if_true,true_and]
     by_cases hc:z.cells.length=n/\len*n<=16777216
     .rw[if_pos hc]
      simp only[hc.1,hc.2,true_and]
      cases Zzd (λi=>some (i*n,n)) (Z3o len z.cells) (l.map λp=>(p.1,AS.ev E ⟨τ,H⟩ p.2))with
      |none=>simp[Z6r]
      |some cs=>simp[Z6r,AS.put]
     rw[if_neg hc];simp only[Z6r];rw[<- and_assoc];simp[hc]
def Zmp(P:Program)(t:TypeId)(len cap:V):Option (Nat×Nat×List V):=
 match P.underlying t,len,cap with
 |some (.slice e),.int _ n,.int _ m=>match Znb P e,Z7m P e,Zxc P e with
  |some E,some bytes,some z=>if z.length=E/\0<=n/\n<=m/\m<=4611686018427387904/\bytes*m<=281474976710656 then some (E,n.toNat,Z3o m.toNat z)else none
  |_,_,_=>none
 |_,_,_=>none
@[go_sem] theorem Zar(t:TypeId)(x y:Operand)(e:Nat):Zlb P E ops Q (⟨some e,.makeSlice t x y,ty,pos,af,none⟩::rest) ⟨τ,H⟩ =
  Zjca P E ops Q rest e τ H (Zmp P t (AS.ev E ⟨τ,H⟩ x) (AS.ev E ⟨τ,H⟩ y)):=by
 rw[Zfc];simp only[Zwa,Znd,Zmp,Zxc,Zjca];generalize AS.ev E ⟨τ,H⟩ x=v;generalize AS.ev E ⟨τ,H⟩ y=u
 cases P.underlying t with
 |none=>rfl
 |some k=>
  cases k<;>try rfl
  rename_i e'
  cases v<;>try rfl
  cases u<;>try rfl
  rename_i k1 n k2 m;simp only
  cases Znb P e' with
  |none=>rfl
  |some N=>
   cases Z7m P e' with
   |none=>rfl
   |some B=>
    cases Z8e P e' with
    |none=>rfl
    |some z=>
     simp only[Option.bind_some]
     cases hz:z.solid with
     |false=>simp[Z6r]
     |true=>
      simp only[if_true,true_and]
      by_cases hc:z.cells.length=N/\0<=n/\n<=m/\m<=4611686018427387904/\B*m<=281474976710656
      rw[if_pos hc];simp only[hc.1,hc.2.1,hc.2.2.1,hc.2.2.2.1,hc.2.2.2.2,true_and,Z6r,AS.put];rw[if_neg hc];simp only[Z6r];simp only[<- and_assoc]at hc⊢;simp[hc]
def callC(P:Program)(E:Ent)(ops:Array Oper)(Q:AS->Prop)(rest:List Oper)(d:Option Nat)(τ : Nat->V)(H:Heap)(f:V)(args:List V):Prop:=
 match f with
 |.func (.func fid) first cap=>CallP P E.G E.kp fid (first++args++cap) H λv H'=>Zlb P E ops Q rest (AS.put ⟨τ,H'⟩ d v)
 |_=>False
def CallC(P:Program)(E:Ent)(ops:Array Oper)(Q:AS->Prop)(rest:List Oper)(d:Option Nat)(τ : Nat->V)(H:Heap)(fid:FuncId)(args:List V):Prop:=
 match E.kp with
 |none=>CallA P E.G fid args H λv H'=>Zlb P E ops Q rest (AS.put ⟨τ,H'⟩ d v)
 |some k=>CallP P E.G (some k) fid args H λv H'=>Zlb P E ops Q rest (AS.put ⟨τ,H'⟩ d v)
@[go_sem] theorem callC_func(fid:FuncId)(first cap args:List V):callC P E ops Q rest d τ H (.func (.func fid) first cap) args=CallC P E ops Q rest d τ H fid (first++args++cap):=by
 simp only[callC,CallC]
 cases E.kp with
 |none=>exact Ztu
 |some k=>rfl
@[go_sem] theorem opsA_call(f:Operand)(l:List Operand)(ats:Array TypeId):Zlb P E ops Q (⟨d,.call ⟨.value f,⟨l⟩,ats⟩,ty,pos,af,none⟩::rest) ⟨τ,H⟩ =
  callC P E ops Q rest d τ H (AS.ev E ⟨τ,H⟩ f) (l.map (AS.ev E ⟨τ,H⟩)):=by
 rw[Zfc];rfl
def appC(P:Program)(E:Ent)(ops:Array Oper)(Q:AS->Prop)(rest:List Oper)(e:Nat)(τ : Nat->V)(H:Heap)(ats:List TypeId)(a b:V):Prop:=
 Zfm P H (E.q+e) ⟨ats⟩ a b λv H'=>Zlb P E ops Q rest (AS.put ⟨τ,H'⟩ (some e) v)
@[go_sem] theorem opsA_append(x y:Operand)(ats:List TypeId)(e:Nat):Zlb P E ops Q (⟨some e,.call ⟨.builtin .append,⟨[x,y]⟩,⟨ats⟩⟩,ty,pos,af,none⟩::rest) ⟨τ,H⟩ =
  appC P E ops Q rest e τ H ats (AS.ev E ⟨τ,H⟩ x) (AS.ev E ⟨τ,H⟩ y):=by
 rw[Zfc];rfl
def appOf(P:Program)(ats:List TypeId):Option (Nat×Nat):=
 match ats with
 |[t0,t1]=>match P.underlying t0,P.underlying t1 with
  |some (.slice _),some (.int _)=>none
  |some (.slice e),some _=>match Znb P e,Z7m P e,Zxc P e with
   |some E,some bytes,some z=>if z.length=E then some (E,bytes)else none
   |_,_,_=>none
  |_,_=>none
 |_=>none
def appE(P:Program)(E:Ent)(ops:Array Oper)(Q:AS->Prop)(rest:List Oper)(e:Nat)(τ : Nat->V)(H:Heap)(m bytes:Nat)(a:V)(src:Option (Nat×List V))(ob:AObj):Prop:=
 match src with
 |none=>False
 |some (n,xc)=>
  match a with
  |.nils=>Z3f bytes n/\(n=0->Zlb P E ops Q rest ⟨upd τ e .nils,H⟩)/\(n≠0->∀ g,Zlb P E ops Q rest ⟨upd τ e (.msl (E.q+e) g 0 n m),upd H (E.q+e) (.cells .new g 0 xc)⟩)
  |.slice c clip m' l=>m'=m/\Z3f bytes (l.length+n)/\(n=0->Zlb P E ops Q rest ⟨upd τ e (.slice c clip m l),H⟩) /\
    (n≠0->clip=true/\∀ g,Zlb P E ops Q rest ⟨upd τ e (.msl (E.q+e) g 0 (l.length+n) m),upd H (E.q+e) (.cells .new g 0 (flat l++xc))⟩)
  |.msl o g off len m'=>m'=m/\Z3f bytes (len+n) /\
   match ob with
   |.cells c g' fz cs=>g=g'/\off+len*m<=cs.length/\fz<=off+len*m /\
     ∀ g2,Zlb P E ops Q rest ⟨upd τ e (.msl o g2 0 (len+n) m),upd H o (.cells c.moved g2 (fz-off) ((cs.drop off).take (len*m)++xc))⟩
   |_=>False
  |_=>False
def obS(H:Heap)(a:V):AObj:=match a with|.msl o _ _ _ _=>H o|_=>.dead
theorem Zh2(H:Heap)(o g off len m:Nat):obS H (.msl o g off len m)=H o:=rfl
theorem Zena(H:Heap):obS H .nils=.dead:=rfl
theorem Zmha(H:Heap)(c:Col)(b:Bool)(m:Nat)(l:List V):obS H (.slice c b m l)=.dead:=rfl
attribute[go_sem]Zh2 Zena Zmha
theorem appC_E{ats:List TypeId}{m bytes:Nat}(h:appOf P ats=some (m,bytes))(e:Nat)(a b:V):appC P E ops Q rest e τ H ats a b=appE P E ops Q rest e τ H m bytes a (Zed H m b) (obS H a):=by
 unfold appOf at h
 split at h
 case h_2=>simp at h
 rename_i t0 t1
 split at h
 simp at h;rename_i e' bt hne h0 h1
 split at h
 rename_i N B z hs hb hz
 split at h
 .rename_i hzl
  simp at h;obtain⟨rfl,rfl⟩:=h
  have hzv:∃ zv,Z8e P e'=some zv/\zv.solid=true/\zv.cells=z:=by
   unfold Zxc at hz
   cases hzz:Z8e P e' with
   |none=>rw[hzz]at hz;simp at hz
   |some zv=>
    rw[hzz]at hz;simp only[Option.bind_some]at hz
    split at hz
    rename_i h1;simp at hz;exact⟨zv,rfl,h1,hz⟩;simp at hz
  obtain⟨zv,h2,h3,h4⟩:=hzv;unfold appC Zfm;simp only[h0,h1]
  have fin:Z3j H (E.q+e) N B a b (λv H'=>Zlb P E ops Q rest (AS.put ⟨τ,H'⟩ (some e) v))=appE P E ops Q rest e τ H N B a (Zed H N b) (obS H a):=by
   unfold Z3j appE
   cases Zed H N b with
   |none=>rfl
   |some p=>
    obtain⟨n,xc⟩:=p
    cases a<;>try rfl
    all_goals(rename_i o g off len m';simp only[obS];cases H o<;>rfl)
  rw[<- fin]
  cases bt<;>first|exact absurd rfl (hne _)|simp only[hs,hb,h2,h3,h4,hzl,true_and]
 simp at h;simp at h;simp at h
def srcK(m:Nat)(ob:AObj)(x:V):Option (Nat×List V):=
 match x with
 |.nils=>some (0,[])
 |.slice _ _ E' l=>if E'=m then some (l.length,flat l)else none
 |.msl _ g off len E'=>match ob with
  |.cells _ g' _ cs=>if E'=m/\g=g'/\off+len*m<=cs.length then some (len,(cs.drop off).take (len*m))else none
  |_=>none
 |.str s=>if m=1 then some (s.length,s.map λb=>.int .u8 b.toNat)else none
 |_=>none
theorem Z99(H:Heap)(m:Nat)(x:V):Zed H m x=srcK m (obS H x) x:=by
 unfold Zed srcK
 cases x<;>rfl
theorem Z89(m:Nat)(ob:AObj)(c:Col)(b:Bool)(E':Nat)(l:List V):srcK m ob (.slice c b E' l)=if E'=m then some (l.length,flat l)else none:=rfl
theorem Z7la(m:Nat)(o g off len E':Nat)(c:Col)(g' fz:Nat)(cs:List V):srcK m (.cells c g' fz cs) (.msl o g off len E') =
  if E'=m/\g=g'/\off+len*m<=cs.length then some (len,(cs.drop off).take (len*m))else none:=rfl
attribute[go_sem]Z99 Z89 Z7la
theorem Zlx(e m bytes n:Nat)(xc:List V)(ob:AObj):appE P E ops Q rest e τ H m bytes .nils (some (n,xc)) ob =
  (Z3f bytes n/\(n=0->Zlb P E ops Q rest ⟨upd τ e .nils,H⟩)/\(n≠0->∀ g,Zlb P E ops Q rest ⟨upd τ e (.msl (E.q+e) g 0 n m),upd H (E.q+e) (.cells .new g 0 xc)⟩)):=rfl
theorem Zju(e m bytes n:Nat)(xc:List V)(o g off len m':Nat)(c:Col)(g' fz:Nat)(cs:List V):appE P E ops Q rest e τ H m bytes (.msl o g off len m') (some (n,xc)) (.cells c g' fz cs) =
  (m'=m/\Z3f bytes (len+n)/\g=g'/\off+len*m<=cs.length/\fz<=off+len*m /\
     ∀ g2,Zlb P E ops Q rest ⟨upd τ e (.msl o g2 0 (len+n) m),upd H o (.cells c.moved g2 (fz-off) ((cs.drop off).take (len*m)++xc))⟩):=rfl
theorem Zica(v:V):Zkh P E ops Q rest d τ H (some v)=Zlb P E ops Q rest (AS.put ⟨τ,H⟩ d v):=rfl
theorem Zmca(H:Heap):contH P E ops Q rest d τ (some H)=Zlb P E ops Q rest (AS.put ⟨τ,H⟩ d (.tuple [])):=rfl
theorem Zkca(e:Nat)(cs:List V):Zkja P E ops Q rest e τ H (some cs)=∀ g,Zlb P E ops Q rest ⟨upd τ e (.ptr (E.q+e) g 0),upd H (E.q+e) (.cells .new g 0 cs)⟩:=rfl
theorem Zns(e m len:Nat)(cs:List V):Zjca P E ops Q rest e τ H (some (m,len,cs))=∀ g,Zlb P E ops Q rest ⟨upd τ e (.msl (E.q+e) g 0 len m),upd H (E.q+e) (.cells .new g 0 cs)⟩:=rfl
attribute[go_sem]Zju Zica Zmca Zkca Zns
end
section
variable(P)(t:TypeId)(k:IntKind)(a b:Int)
theorem Zgd(op:BinOp)(h1:op ≠ .shl)(h2:op ≠ .shr):Zlh P op t (.int k a) (.int k b)=intV op k a b:=by
 simp only[Zlh];rw[if_neg (by simp[h1,h2])];simp
theorem Zsoa:Zlh P .add t (.int k a) (.int k b)=some (.int k (k.wrap (a+b))):=Zgd P t k a b .add zS zS
theorem Zgoa:Zlh P .sub t (.int k a) (.int k b)=some (.int k (k.wrap (a-b))):=Zgd P t k a b .sub zS zS
theorem Zmoa:Zlh P .mul t (.int k a) (.int k b)=some (.int k (k.wrap (a*b))):=Zgd P t k a b .mul zS zS
theorem Zkoa:Zlh P .quo t (.int k a) (.int k b)=if b=0 then none else some (.int k (k.wrap (a.tdiv b))):=Zgd P t k a b .quo zS zS
theorem Zjoa:Zlh P .rem t (.int k a) (.int k b)=if b=0 then none else some (.int k (a.tmod b)):=Zgd P t k a b .rem zS zS
theorem Zroa:Zlh P .eql t (.int k a) (.int k b)=some (.bool (a==b)):=Zgd P t k a b .eql zS zS
theorem Zloa:Zlh P .neq t (.int k a) (.int k b)=some (.bool (a != b)):=Zgd P t k a b .neq zS zS
theorem Znoa:Zlh P .lss t (.int k a) (.int k b)=some (.bool (decide (a<b))):=Zgd P t k a b .lss zS zS
theorem Zooa:Zlh P .leq t (.int k a) (.int k b)=some (.bool (decide (a<=b))):=Zgd P t k a b .leq zS zS
theorem Zpoa:Zlh P .gtr t (.int k a) (.int k b)=some (.bool (decide (a>b))):=Zgd P t k a b .gtr zS zS
theorem Zqoa:Zlh P .geq t (.int k a) (.int k b)=some (.bool (decide (a>=b))):=Zgd P t k a b .geq zS zS
attribute[go_sem]Zsoa Zgoa Zmoa Zkoa Zjoa Zroa Zloa Znoa Zooa Zpoa Zqoa
end
theorem Zhoa(op:BinOp)(t:TypeId)(a b:List UInt8):Zlh P op t (.str a) (.str b)=strV op a b:=rfl
theorem Z4la(a b:List UInt8):strV .eql a b=some (.bool (a==b)):=rfl
theorem Z3la(a b:List UInt8):strV .neq a b=some (.bool (!(a==b))):=rfl
theorem unV_not(b:Bool):unV .not (.bool b)=some (.bool !b):=rfl
theorem unV_neg(k:IntKind)(n:Int):unV .neg (.int k n)=some (.int k (k.wrap (0-n))):=rfl
attribute[go_sem]Zhoa Z4la Z3la unV_not unV_neg
def fldOf(P:Program)(t:TypeId)(f:Nat):Option (Nat×Bool×Nat):=
 match P.underlying t with
 |some (.struct fs)=>match fs[f]? with
  |some fd=>match Z8f P fd.type,Znb P fd.type with
   |some b,some (n+1)=>if b=true\/n=0 then some (fd.offset,b,n+1)else none
   |_,_=>none
  |none=>none
 |_=>none
def Zvl(b:Bool)(n:Nat)(l:List V)(off:Nat):Option V:=
 if b then(if off+n<=l.length then some (.agg ((l.drop off).take n))else none)else l[off]?
@[go_sem] theorem partC_true(n:Nat)(l:List V)(off:Nat):Zvl true n l off=if off+n<=l.length then some (.agg ((l.drop off).take n))else none:=rfl
@[go_sem] theorem partC_false(n:Nat)(l:List V)(off:Nat):Zvl false n l off=l[off]? := rfl
theorem Z3g{t:TypeId}{b:Bool}{n:Nat}(h1:Z8f P t=some b)(h2:Znb P t=some n)(h3:b=true\/n=1)(l:List V)(off:Nat):Zlk P t l off=Zvl b n l off:=by
 unfold Zlk Zvl;rw[h1,h2]
 cases b with
 |true=>rfl
 |false=>
  rcases h3 with h3|h3
  cases h3;subst h3;rfl
def fldK(x:Option (Nat×Bool×Nat))(a:V):Option V:=
 match x,a with
 |some (k,_,_),.ptr o g off=>some (.ptr o g (off+k))
 |some (k,b,n),.view c (.agg l)=>(Zvl b n l k).map (.view c)
 |_,_=>none
@[go_sem] theorem fldK_ptr(k n:Nat)(b:Bool)(o g off:Nat):fldK (some (k,b,n)) (.ptr o g off)=some (.ptr o g (off+k)):=rfl
@[go_sem] theorem fldK_view(k n:Nat)(b:Bool)(c:Col)(l:List V):fldK (some (k,b,n)) (.view c (.agg l))=(Zvl b n l k).map (.view c):=rfl
theorem Z0w{t:TypeId}{f:Nat}{x:Nat×Bool×Nat}(h:fldOf P t f=some x)(a:V):Z8d P t a f=fldK (some x) a:=by
 unfold fldOf at h;unfold Z8d
 split at h
 rename_i fs hu;rw[hu];simp only
 split at h
 rename_i fd hf;rw[hf];simp only
 split at h
 rename_i b n h1 h2
 split at h
 .rename_i hc
  simp at h;subst h;rw[h2];simp only;unfold fldK
  cases a<;>try rfl
  rename_i c v
  cases v<;>try rfl
  rename_i l;simp only;rw[Z3g h1 h2 (hc.imp id zo)]
 simp at h;simp at h;simp at h;simp at h
def Z9f(P:Program)(t:TypeId):Option Nat:=match P.underlying t with|some (.slice e)=>Znb P e|_=>none
def Zs2(P:Program)(t:TypeId):Bool:=match P.underlying t with|some .string=>true|_=>false
def Zs1(P:Program)(t:TypeId):Option (Bool×Nat):=
 match Z8f P t,Znb P t with
 |some true,some n=>some (true,n)
 |some false,some 1=>some (false,1)
 |_,_=>none
def idxK(e:Option Nat)(a i:V):Option V:=
 match e,a,i with
 |some m,.slice c _ E l,.int _ n=>if m=E/\0<=n then(l[n.toNat]?).map (.view c)else none
 |some m,.msl o g off len E,.int _ n=>if m=E/\0<=n/\n<len then some (.ptr o g (off+n.toNat*E))else none
 |_,_,_=>none
theorem Zow{t:TypeId}{m:Nat}(h:Z9f P t=some m)(a i:V):Z3b P t a i=idxK (some m) a i:=by
 unfold Z9f at h;unfold Z3b idxK
 split at h
 .rename_i e hu
  rw[hu]
  cases i<;>try(cases a<;>rfl)
  cases a<;>try rfl
  simp only[h,Option.some.injEq];simp only[h,Option.some.injEq]
 simp at h
@[go_sem] theorem idxK_slice(m:Nat)(c:Col)(clip:Bool)(E:Nat)(l:List V)(k:IntKind)(n:Int):idxK (some m) (.slice c clip E l) (.int k n)=if m=E/\0<=n then(l[n.toNat]?).map (.view c)else none:=rfl
@[go_sem] theorem idxK_msl(m o g off len E:Nat)(k:IntKind)(n:Int):idxK (some m) (.msl o g off len E) (.int k n)=if m=E/\0<=n/\n<len then some (.ptr o g (off+n.toNat*E))else none:=rfl
def Z48(sl:Bool)(a:V):Option V:=
 match a with
 |.nils=>if sl then some (.int .i64 0)else none
 |.slice _ _ _ l=>if sl then some (.int .i64 l.length)else none
 |.msl _ _ _ len _=>if sl then some (.int .i64 len)else none
 |.str s=>if sl then none else some (.int .i64 s.length)
 |_=>none
theorem Zyba{t:TypeId}{m:Nat}(h:Z9f P t=some m)(a:V):lenV P t a=Z48 true a:=by
 unfold Z9f at h;unfold lenV Z48
 split at h
 rename_i e hu;rw[hu]
 cases a<;>rfl
 simp at h
theorem Zona{t:TypeId}(h:Zs2 P t=true)(a:V):lenV P t a=Z48 false a:=by
 unfold Zs2 at h;unfold lenV Z48
 split at h
 rename_i hu;rw[hu]
 cases a<;>rfl
 simp at h
theorem Zbia:Z48 true .nils=some (.int .i64 0):=rfl
theorem Zzba(c:Col)(clip:Bool)(E:Nat)(l:List V):Z48 true (.slice c clip E l)=some (.int .i64 l.length):=rfl
theorem Zrna(o g off len E:Nat):Z48 true (.msl o g off len E)=some (.int .i64 len):=rfl
theorem Zqna(s:List UInt8):Z48 false (.str s)=some (.int .i64 s.length):=rfl
attribute[go_sem]Zbia Zzba Zrna Zqna
def Zhn(x:Option (Bool×Nat))(ob:AObj)(a:V):Option V:=
 match x,a with
 |some (b,n),.ptr _ g off=>match ob with
  |.cells _ g' _ cs=>if g=g' then Zvl b n cs off else none
  |_=>none
 |some (b,n),.view _ v=>match v,b with
  |.agg l,true=>if n=l.length then some (.agg l)else none
  |.agg _,false=>none
  |.top,_=>none
  |.tuple _,_=>none
  |_,true=>none
  |v,false=>some v
 |_,_=>none
def obOf(H:Heap)(a:V):AObj:=match a with|.ptr o _ _=>H o|_=>.dead
theorem readV_K{t:TypeId}{b:Bool}{n:Nat}(h:Zs1 P t=some (b,n))(H:Heap)(a:V):Z9b P H t a=Zhn (some (b,n)) (obOf H a) a:=by
 unfold Zs1 at h
 have hh:Z8f P t=some b/\Znb P t=some n/\(b=true\/n=1):=by
  split at h<;>simp at h<;>obtain⟨rfl,rfl⟩:=h<;>rename_i h1 h2
  exact⟨h1,h2,.inl rfl⟩;exact⟨h1,h2,.inr rfl⟩
 obtain⟨h1,h2,h3⟩:=hh;unfold Z9b
 cases a<;>try(simp[Zjc,Zhn];done)
 rename_i c v;simp only[Zjc,Zhn,h1,h2]
 cases b<;>cases v<;>simp
 .rename_i o g off
  simp only[Zhn,obOf]
  cases H o with
  |dead=>rfl
  |mp=>rfl
  |lp=>rfl
  |cells c g' fz cs=>
   simp only;rw[Z3g h1 h2 h3]
theorem Zfna(H:Heap)(o g off:Nat):obOf H (.ptr o g off)=H o:=rfl
theorem Z5ha(b:Bool)(n o g off:Nat)(c:Col)(g' fz:Nat)(cs:List V):Zhn (some (b,n)) (.cells c g' fz cs) (.ptr o g off)=if g=g' then Zvl b n cs off else none:=rfl
theorem Z8ha(n:Nat)(ob:AObj)(c:Col)(l:List V):Zhn (some (true,n)) ob (.view c (.agg l))=if n=l.length then some (.agg l)else none:=rfl
theorem Z6ha(n:Nat)(ob:AObj)(c:Col)(k:IntKind)(i:Int):Zhn (some (false,n)) ob (.view c (.int k i))=some (.int k i):=rfl
theorem Z4ha(n:Nat)(ob:AObj)(c:Col)(s:List UInt8):Zhn (some (false,n)) ob (.view c (.str s))=some (.str s):=rfl
theorem Zwba(n:Nat)(ob:AObj)(c:Col)(fn:Fn)(a b:List V):Zhn (some (false,n)) ob (.view c (.func fn a b))=some (.func fn a b):=rfl
attribute[go_sem]Zfna Z5ha Z8ha Z6ha Z4ha Zwba
def Z8fa(sz:Option Nat)(H:Heap)(ob:AObj)(a v:V):Option Heap:=
 match a,ob with
 |.ptr o g off,.cells c g' fz cs=>if g=g'/\v.solid=true/\sz=some v.cells.length/\fz<=off/\off+v.cells.length<=cs.length then some (upd H o (.cells c g fz (setAt cs off v.cells)))else none
 |_,_=>none
theorem Z5la(H:Heap)(t:TypeId)(a v:V):Zsm P H t a v=Z8fa (Znb P t) H (obOf H a) a v:=by
 unfold Zsm Z8fa
 cases a<;>try rfl
 rename_i o g off;simp only[obOf]
 cases H o<;>rfl
theorem Z59(sz:Option Nat)(H:Heap)(o g off:Nat)(c:Col)(g' fz:Nat)(cs:List V)(v:V):Z8fa sz H (.cells c g' fz cs) (.ptr o g off) v =
  if g=g'/\v.solid=true/\sz=some v.cells.length/\fz<=off/\off+v.cells.length<=cs.length then some (upd H o (.cells c g fz (setAt cs off v.cells)))else none:=rfl
theorem Zqga(cs:List V)(off:Nat):setAt cs off []=cs:=rfl
theorem Ziaa(cs:List V)(off:Nat)(v:V)(r:List V):setAt cs off (v::r)=setAt (cs.set off v) (off+1) r:=rfl
attribute[go_sem]Z5la Z59 Zqga Ziaa
section
theorem Zdx(l:List V):(V.agg l).cells=l:=rfl
theorem Zqja(k:IntKind)(n:Int):(V.int k n).cells=[.int k n]:=rfl
theorem Zsca(b:Bool):(V.bool b).cells=[.bool b]:=rfl
theorem Zoja(s:List UInt8):(V.str s).cells=[.str s]:=rfl
theorem Zqca:V.nils.cells=[.nils]:=rfl
theorem Zpja(o g off len E:Nat):(V.msl o g off len E).cells=[.msl o g off len E]:=rfl
theorem Zrca(fn:Fn)(a b:List V):(V.func fn a b).cells=[.func fn a b]:=rfl
theorem Zfga(l:List V):(V.agg l).solid=true:=rfl
theorem Zdga(k:IntKind)(n:Int):(V.int k n).solid=true:=rfl
theorem Zeaa(b:Bool):(V.bool b).solid=true:=rfl
theorem Zbga(s:List UInt8):(V.str s).solid=true:=rfl
theorem Zcaa:V.nils.solid=true:=rfl
theorem Zcga(o g off len E:Nat):(V.msl o g off len E).solid=true:=rfl
theorem Zdaa(fn:Fn)(a b:List V):(V.func fn a b).solid=true:=rfl
theorem Z9la(v:V):Zgga v=if v.solid then some v.cells else none:=rfl
theorem Zuga(z:List V):Z3o 0 z=[]:=rfl
theorem Zwv(n:Nat)(z:List V):Z3o (n+1) z=z++Z3o n z:=rfl
attribute[go_sem]Zdx Zqja Zsca Zoja Zqca Zpja Zrca Zfga Zdga Zeaa Zbga Zcaa Zcga Zdaa Z9la Zuga Zwv
end
section
variable(P)(t:TypeId)
def Zdg(P:Program)(t:TypeId):Nat:=
 match P.underlying t with
 |some (.pointer _)=>1
 |some (.slice _)=>2
 |some (.func _ _ _)=>3
 |some (.interface _)=>4
 |some (.map _ _)=>5
 |_=>0
def nilK(k:Nat)(a:V):Option Bool:=
 match a with
 |.nilp=>if k=1 then some true else none
 |.view _ _=>if k=1 then some false else none
 |.ptr _ _ _=>if k=1 then some false else none
 |.nils=>if k=2 then some true else none
 |.slice _ _ _ _=>if k=2 then some false else none
 |.msl _ _ _ _ _=>if k=2 then some false else none
 |.nilf=>if k=3 then some true else none
 |.func _ _ _=>if k=3 then some false else none
 |.iface _ _=>if k=4 then some false else none
 |.nilm=>if k=5 then some true else none
 |_=>none
theorem nilB_K(a:V):nilB P t a=nilK (Zdg P t) a:=by
 unfold nilB Zdg
 cases h:P.underlying t with
 |none=>cases a<;>rfl
 |some u=>cases u<;>cases a<;>rfl
def Z6f(k:Nat):V:=if k=1 then .nilp else if k=2 then .nils else if k=3 then .nilf else if k=4 then .nili else .nilm
theorem eqV_nil{k:Nat}(h:Zdg P t=k)(hk:k≠0)(a:V):eqV P t a (Z6f k)=nilK k a:=by
 have hf:Zdj P t (Z6f k)=true:=by
  subst h;unfold Zdj Z6f Zdg at *
  cases hu:P.underlying t with
  |none=>rw[hu]at hk;exact absurd rfl hk
  |some u=>rw[hu]at hk;cases u<;>first|rfl|exact absurd rfl hk
 have hb:∀ x,Z6f k ≠ .bool x:=by
  intro x;unfold Z6f
  repeat' split
  all_goals exact λh=>by cases h
 rw[<- h,<- nilB_K];unfold eqV
 split
 rename_i x y e;rw[h]at e;exact absurd e (hb _);rw[h,if_pos hf]
theorem Z8k{k:Nat}(h:Zdg P t=k)(hk:k≠0)(a:V):Zlh P .eql t a (Z6f k)=(nilK k a).map .bool/\Zlh P .neq t a (Z6f k)=(nilK k a).map λr=>.bool (!r):=by
 rw[<- eqV_nil P t h hk]
 have h1:∀ k' n,Z6f k ≠ .int k' n:=by
  intro k' n;unfold Z6f
  repeat' split
  all_goals exact λh=>by cases h
 have h2:∀ l,Z6f k ≠ .str l:=by
  intro l;unfold Z6f
  repeat' split
  all_goals exact λh=>by cases h
 have h3:∀ l,Z6f k ≠ .agg l:=by
  intro l;unfold Z6f
  repeat' split
  all_goals exact λh=>by cases h
 generalize Z6f k=b at *;unfold Zlh
 constructor
 split
 exact absurd rfl (h1 _ _);exact absurd rfl (h2 _);exact absurd rfl (h3 _);rfl
 split
 exact absurd rfl (h1 _ _);exact absurd rfl (h2 _);exact absurd rfl (h3 _);rfl
@[go_sem] theorem nilK_nils:nilK 2 .nils=some true:=rfl
@[go_sem] theorem nilK_slice(c:Col)(b:Bool)(m:Nat)(l:List V):nilK 2 (.slice c b m l)=some false:=rfl
end
def bsK(m:Nat)(z:List V)(len:Nat)(parts:List (Nat×V)):Option (Nat×Nat×List V):=
 if len*m<=16777216 then(Zzd (λi=>some (i*m,m)) (Z3o len z) parts).map λcs=>(m,len,cs)else none
theorem Zuja{P:Program}{t e:TypeId}{m:Nat}{z:List V}(h1:P.underlying t=some (.slice e))(h2:Znb P e=some m)(h3:Zxc P e=some z)(h4:z.length=m)(len:Nat)(parts:List (Nat×V)):
  Zeq P t len parts=bsK m z len parts:=by
 unfold Zeq bsK;simp only[h1,h2,h3,h4,true_and]
def mulP(m:Nat):Nat->Option (Nat×Nat):=λi=>some (i*m,m)
def tblP(tbl:List (Nat×Nat)):Nat->Option (Nat×Nat):=λi=>tbl[i]?
theorem bsK_lit(m:Nat)(z:List V)(len:Nat)(parts:List (Nat×V)):bsK m z len parts=if len*m<=16777216 then(Zzd (mulP m) (Z3o len z) parts).map λcs=>(m,len,cs)else none:=rfl
theorem Zzia(p:Nat->Option (Nat×Nat))(cells:List V):Zzd p cells []=some cells:=rfl
theorem Z0ia(m:Nat)(cells:List V)(i:Nat)(v:V)(rest:List (Nat×V)):Zzd (mulP m) cells ((i,v)::rest) =
  if v.solid=true/\v.cells.length=m/\i*m+m<=cells.length then Zzd (mulP m) (setAt cells (i*m) v.cells) rest else none:=rfl
attribute[go_sem]bsK_lit Zzia Z0ia
def fillT(tbl:List (Nat×Nat))(p:Option (Nat×Nat))(cells:List V)(v:V)(rest:List (Nat×V)):Option (List V):=
 match p with
 |none=>none
 |some (off,size)=>if v.solid=true/\v.cells.length=size/\off+size<=cells.length then Zzd (tblP tbl) (setAt cells off v.cells) rest else none
@[go_sem] theorem fillV_tbl(tbl:List (Nat×Nat))(cells:List V)(i:Nat)(v:V)(rest:List (Nat×V)):Zzd (tblP tbl) cells ((i,v)::rest)=fillT tbl (tbl[i]?) cells v rest:=rfl
@[go_sem] theorem fillT_some(tbl:List (Nat×Nat))(off size:Nat)(cells:List V)(v:V)(rest:List (Nat×V)):fillT tbl (some (off,size)) cells v rest =
  if v.solid=true/\v.cells.length=size/\off+size<=cells.length then Zzd (tblP tbl) (setAt cells off v.cells) rest else none:=rfl
def tblOf(P:Program)(t:TypeId):Option (List (Nat×Nat)):=
 match P.underlying t with
 |some (.struct fs)=>fs.toList.mapM λf=>(Znb P f.type).map λn=>(f.offset,n)
 |_=>none
theorem Zz8{α β : Type}{f : α -> Option β}:∀ {l:List α} {r:List β},l.mapM f=some r->(l.all λx=>(f x).isSome)=true/\∀ i:Nat,r[i]?=(l[i]?).bind f
 |[],r,h=>by
  simp at h;subst h;exact⟨rfl,λi=>zS⟩
 |x::l,r,h=>by
  simp only[List.mapM_cons,Option.bind_eq_bind,Option.bind_eq_some_iff,Option.pure_def,Option.some.injEq]at h;obtain⟨y,hy,ys,hys,rfl⟩:=h;obtain⟨h1,h2⟩:=Zz8 hys;refine⟨by simp[hy];simpa using h1,λi=>?_⟩
  cases i with
  |zero=>simp[hy]
  |succ i=>simpa using h2 i
theorem Zi9{P:Program}{t:TypeId}{tbl:List (Nat×Nat)}{z:List V}(h1:tblOf P t=some tbl)(h2:Z8e P t=some (.agg z))(parts:List (Nat×V)):
  Zag P t parts=(Zzd (tblP tbl) z parts).map .agg:=by
 unfold tblOf at h1
 cases hu:P.underlying t with
 |none=>rw[hu]at h1;cases h1
 |some k=>
  rw[hu]at h1
  cases k<;>simp only[reduceCtorEq]at h1
  rename_i fs;obtain⟨h3,h4⟩:=Zz8 h1;unfold Zag;rw[hu,h2];have h5:(fs.toList.all λf=>(Znb P f.type).isSome)=true:=zu h3;simp only[h5,Bool.true_and]
  have e:(λi=>(fs[i]?).bind λf=>(Znb P f.type).map λn=>(f.offset,n))=tblP tbl:=by
   funext i
   have:=h4 i;unfold tblP;rw[this];simp
  rw[e];rfl
def slJ(i j:Option Nat)(f:Nat->Nat->Option V):Option V:=match i,j with|some i,some j=>f i j|_,_=>none
theorem Zg8(i j:Nat)(f:Nat->Nat->Option V):slJ (some i) (some j) f=f i j:=rfl
theorem Zgq(d:Nat):Zpa d none=some d:=rfl
theorem Zvca(d:Nat)(k:IntKind)(n:Int):Zpa d (some (.int k n))=if 0<=n then some n.toNat else none:=rfl
attribute[go_sem]Zg8 Zgq Zvca
def slK(m:Nat)(a:V)(lo hi:Option V):Option V:=
 match a with
 |.slice c clip E l=>slJ (Zpa 0 lo) (Zpa l.length hi) λi j=>if m=E/\i<=j/\j<=l.length then some (.slice c (clip&&j==l.length) E ((l.drop i).take (j-i)))else none
 |.msl o g off len E=>slJ (Zpa 0 lo) (Zpa len hi) λi j=>
   if m=E/\i<=j/\j<=len then some (if i=0 then .msl o g off j E else if i<j then .msl o g (off+i*E) (j-i) E else .slice .any false E [])else none
 |.nils=>slJ (Zpa 0 lo) (Zpa 0 hi) λi j=>if i=0/\j=0 then some .nils else none
 |_=>none
theorem Zgi{t:TypeId}{m:Nat}(h:Z9f P t=some m)(a:V)(lo hi:Option V):Zaf P t a lo hi none=slK m a lo hi:=by
 unfold Z9f at h;unfold Zaf slK
 split at h
 .rename_i e hu
  rw[hu]
  cases a<;>try rfl
  .simp only[h,Option.isSome_some,if_true]
   cases h1:Zpa 0 lo with
   |none=>rfl
   |some i=>
    cases h2:Zpa 0 hi with
    |none=>cases i<;>rfl
    |some j=>
     simp only[Zgq,Zg8]
     cases i with
     |zero=>cases j<;>rfl
     |succ i=>rw[if_neg zS];rfl
  .rename_i c clip E l
   simp only[h,Option.some.injEq]
   cases Zpa 0 lo with
   |none=>rfl
   |some i=>
    cases Zpa l.length hi with
    |none=>rfl
    |some j=>rfl
  .rename_i o g off len E
   simp only[h,Option.some.injEq]
   cases Zpa 0 lo with
   |none=>rfl
   |some i=>
    cases Zpa len hi with
    |none=>rfl
    |some j=>rfl
 simp at h
@[go_sem] theorem slK_msl(m o g off len E:Nat)(lo hi:Option V):slK m (.msl o g off len E) lo hi =
  slJ (Zpa 0 lo) (Zpa len hi) λi j=>if m=E/\i<=j/\j<=len then some (if i=0 then .msl o g off j E else if i<j then .msl o g (off+i*E) (j-i) E else .slice .any false E [])else none:=rfl
@[go_sem] theorem slK_nils(m:Nat)(lo hi:Option V):slK m .nils lo hi=slJ (Zpa 0 lo) (Zpa 0 hi) λi j=>if i=0/\j=0 then some .nils else none:=rfl
def msK(E bytes:Nat)(z:List V)(a b:V):Option (Nat×Nat×List V):=
 match a,b with
 |.int _ n,.int _ m=>if 0<=n/\n<=m/\m<=4611686018427387904/\bytes*m<=281474976710656 then some (E,n.toNat,Z3o m.toNat z)else none
 |_,_=>none
theorem Zwha{t e:TypeId}{E bytes:Nat}{z:List V}(hu:P.underlying t=some (.slice e))(h1:Znb P e=some E)(h2:Z7m P e=some bytes)(h3:Zxc P e=some z)(h4:z.length=E)(a b:V):
  Zmp P t a b=msK E bytes z a b:=by
 unfold Zmp msK;rw[hu]
 cases a<;>try rfl
 cases b<;>try rfl
 simp only[h1,h2,h3,h4,true_and]
@[go_sem] theorem Zboa{E:Ent}{ops:Array Oper}{Q:AS->Prop}{rest:List Oper}{τ : Nat->V}{H:Heap}(e m bytes:Nat)(z:List V)(k1 k2:IntKind)(n c:Int):
  Zjca P E ops Q rest e τ H (msK m bytes z (.int k1 n) (.int k2 c)) =
   ((0<=n/\n<=c/\c<=4611686018427387904/\bytes*c<=281474976710656)/\∀ g,Zlb P E ops Q rest ⟨upd τ e (.msl (E.q+e) g 0 n.toNat m),upd H (E.q+e) (.cells .new g 0 (Z3o c.toNat z))⟩):=by
 have e1:msK m bytes z (.int k1 n) (.int k2 c)=if 0<=n/\n<=c/\c<=4611686018427387904/\bytes*c<=281474976710656 then some (m,n.toNat,Z3o c.toNat z)else none:=rfl
 rw[e1]
 by_cases h:0<=n/\n<=c/\c<=4611686018427387904/\bytes*c<=281474976710656
 rw[if_pos h,Zns];exact(propext (and_iff_right h)).symm;rw[if_neg h];exact propext ⟨False.elim,λhh=>h hh.1⟩
theorem Zf9{s d:TypeId}{kd:IntKind}(h1:(P.underlying s).isSome=true)(h2:P.underlying d=some (.int kd))(k:IntKind)(n:Int):Z8w P s d (.int k n)=some (.int kd (kd.wrap n)):=by
 unfold Z8w;rw[h2]
 cases h:P.underlying s with
 |none=>rw[h]at h1;cases h1
 |some t=>rfl
end
end Go.Hs
