/- Part 18 of a proof; no condition. -/
import Derived.Test.YtegjlbpnpiigkaaGreatDoorPart17
import Derived.Attr
set_option linter.unusedSimpArgs false
set_option linter.unusedVariables false
section
namespace Go.Hs
section
variable {P:Program} {E:Ent}
def Zmt {α : Type} (o:Option α) (K : α → Prop):Prop:=match o with | some v=>K v | none=>False
def Z7g (P:Program) (E:Ent) (ops:Array Oper) (Q:AS→Prop) (rest:List Oper) (d:Option Nat) (τ : Nat→V) (H:Heap) (o:Option V):Prop:=Zmt o fun v=>Zub P E ops Q rest (AS.put ⟨τ,H⟩ d v)
def contH (P:Program) (E:Ent) (ops:Array Oper) (Q:AS→Prop) (rest:List Oper) (d:Option Nat) (τ : Nat→V) (o:Option Heap):Prop:=Zmt o fun H=>Zub P E ops Q rest (AS.put ⟨τ,H⟩ d (.tuple []))
def Zf4 (P:Program) (E:Ent) (ops:Array Oper) (Q:AS→Prop) (rest:List Oper) (e:Nat) (τ : Nat→V) (H:Heap) (o:Option (List V)):Prop :=
 Zmt o fun cs=>∀ g,Zub P E ops Q rest ⟨upd τ e (.ptr (E.q+e) g 0),upd H (E.q+e) (.cells .new g 0 cs)⟩
def contS (P:Program) (E:Ent) (ops:Array Oper) (Q:AS→Prop) (rest:List Oper) (e:Nat) (τ : Nat→V) (H:Heap) (o:Option (Nat × Nat × List V)):Prop :=
 Zmt o fun c=>∀ g,Zub P E ops Q rest ⟨upd τ e (.msl (E.q+e) g 0 c.2.1 c.1),upd H (E.q+e) (.cells .new g 0 c.2.2)⟩
@[go_sem] theorem upd_apply {α : Type} (f:Nat → α) (k:Nat) (x : α) (n:Nat):upd f k x n=if n=k then x else f n:=rfl
@[go_sem] theorem ev_tmp (τ : Nat→V) (H:Heap) (t:Nat):AS.ev E ⟨τ,H⟩ (.tmp t) = τ t:=rfl
@[go_sem] theorem ev_int (τ : Nat→V) (H:Heap) (k:IntKind) (n:Int):AS.ev E ⟨τ,H⟩ (.const (.int k n)) = .int k n:=rfl
@[go_sem] theorem ev_bool (τ : Nat→V) (H:Heap) (b:Bool):AS.ev E ⟨τ,H⟩ (.const (.bool b)) = .bool b:=rfl
@[go_sem] theorem ev_str (τ : Nat→V) (H:Heap) (s:ByteArray):AS.ev E ⟨τ,H⟩ (.const (.string s)) = .str s.data.toList:=rfl
@[go_sem] theorem ev_nils (τ : Nat→V) (H:Heap):AS.ev E ⟨τ,H⟩ (.const (.slice none 0 0)) = .nils:=rfl
@[go_sem] theorem ev_nilp (τ : Nat→V) (H:Heap):AS.ev E ⟨τ,H⟩ (.const (.pointer none)) = .nilp:=rfl
@[go_sem] theorem ev_func (τ : Nat→V) (H:Heap) (f:FuncId):AS.ev E ⟨τ,H⟩ (.func f) = .func (.func f) [] []:=rfl
@[go_sem] theorem ev_global (τ : Nat→V) (H:Heap) (g:Nat):AS.ev E ⟨τ,H⟩ (.global g)=E.G g:=rfl
@[go_sem] theorem put_some (τ : Nat→V) (H:Heap) (d:Nat) (v:V):AS.put ⟨τ,H⟩ (some d) v=⟨upd τ d v,H⟩:=rfl
@[go_sem] theorem put_none (τ : Nat→V) (H:Heap) (v:V):AS.put ⟨τ,H⟩ none v=⟨τ,H⟩:=rfl
@[go_sem] theorem argsE_cons (k:Nat) (v:V) (r:List V):Zli k (v::r)=upd (Zli (k+1) r) k v:=rfl
attribute [go_sem] List.map_cons List.map_nil List.length_cons List.length_nil List.getElem?_cons_zero List.getElem?_cons_succ List.drop_succ_cons List.drop_zero List.take_succ_cons List.take_zero
 List.set_cons_zero List.set_cons_succ List.append_nil List.nil_append List.cons_append Option.map_some Option.map_none Nat.zero_add Nat.add_zero Int.toNat_natCast and_true true_and Bool.not_true Bool.not_false
 and_self Int.natCast_nonneg Bool.false_eq_true Bool.true_eq_false eq_self if_true if_false ne_eq not_true_eq_false not_false_eq_true false_implies true_implies Option.bind_some forall_const
section
variable {ops:Array Oper} {Q:AS→Prop} {rest:List Oper} {τ : Nat→V} {H:Heap} {d:Option Nat} {ty:TypeId} {pos:String} {af:Array Edge}
@[go_sem] theorem Zhr (s:AS):Zub P E ops Q [] s=Q s:=rfl
def Zui (b:Option Bool) (K0 K1:Prop):Prop:=match b with | some true=>K1 | some false=>K0 | none=>False
@[congr] theorem Zb8 {b b':Option Bool} {K0 K1:Prop} (h:b=b'):Zui b K0 K1=Zui b' K0 K1:=by rw [h]
@[go_sem] theorem Zbf (K0 K1:Prop):Zui (some true) K0 K1=K1:=rfl
@[go_sem] theorem Za8 (K0 K1:Prop):Zui (some false) K0 K1=K0:=rfl
def Zdo (v:V) (want:Bool):Option Bool :=
 match v with
 | .bool b=>some (b==want)
 | .tuple []=>some false
 | _=>none
@[go_sem] theorem guardV_true (b:Bool):Zdo (.bool b) true=some b:=by cases b<;>rfl
@[go_sem] theorem Z97 (b:Bool):Zdo (.bool b) false=some (!b):=by cases b<;>rfl
@[go_sem] theorem Z87 (want:Bool):Zdo (.tuple []) want=some false:=rfl
def Zuj (l:List Oper) (j:Nat):Option Nat:=(l[j]?).bind (·.dst)
@[go_sem] theorem slotAt_zero (o:Oper) (l:List Oper):Zuj (o::l) 0=o.dst:=rfl
@[go_sem] theorem slotAt_succ (o:Oper) (l:List Oper) (j:Nat):Zuj (o::l) (j+1)=Zuj l j:=rfl
def Zbj (v:Option V) (want:Bool):Option Bool:=match v with | some v=>Zdo v want | none=>some false
@[go_sem] theorem Zc8 (v:V) (want:Bool):Zbj (some v) want=Zdo v want:=rfl
theorem Z2j (s:AS) (o:Oper):Zub P E ops Q (o::rest) s=Zui (Zfa ops s.τ o) (Zub P E ops Q rest (s.put o.dst (.tuple []))) (Z1a P E s o fun v H'=>Zub P E ops Q rest (AS.put { s with H:=H' } o.dst v)):=by
 simp only [Zub,Zui]
 cases Zfa ops s.τ o with
 | none=>rfl
 | some b=>cases b<;>rfl
@[go_sem] theorem opsA_guard (l:List Oper) (op:Op) (j:Nat) (want:Bool) :
  Zub P E ⟨l⟩ Q (⟨d,op,ty,pos,af,some (j,want)⟩::rest) ⟨τ,H⟩ =
   Zui (Zbj ((Zuj l j).map τ) want) (Zub P E ⟨l⟩ Q rest (AS.put ⟨τ,H⟩ d (.tuple []))) (Zub P E ⟨l⟩ Q (⟨d,op,ty,pos,af,none⟩::rest) ⟨τ,H⟩):=by
 rw [Z2j,Z2j];have e1:Zfa ⟨l⟩ τ ⟨d,op,ty,pos,af,none⟩=some true:=rfl
 have e2:Zfa ⟨l⟩ τ ⟨d,op,ty,pos,af,some (j,want)⟩=Zbj ((Zuj l j).map τ) want:=by
  unfold Zfa Zuj;simp only [List.getElem?_toArray]
  cases (l[j]?).bind (·.dst) with
  | none=>rfl
  | some e =>
   simp only [Option.map_some,Zbj,Zdo];generalize τ e=v
   cases v<;>rfl
 rw [e1,e2];simp only [Zbf];rfl
variable (ops)
theorem Z9b (op:Op) (hs:∀ K,Z1a P E ⟨τ,H⟩ ⟨d,op,ty,pos,af,none⟩ K=(match opV P (AS.ev E ⟨τ,H⟩) ⟨d,op,ty,pos,af,none⟩ with | some v=>K v H | none=>False)) :
  Zub P E ops Q (⟨d,op,ty,pos,af,none⟩::rest) ⟨τ,H⟩=Z7g P E ops Q rest d τ H (opV P (AS.ev E ⟨τ,H⟩) ⟨d,op,ty,pos,af,none⟩):=by
 rw [Z2j];have e1:Zfa ops (⟨τ,H⟩:AS).τ ⟨d,op,ty,pos,af,none⟩=some true:=rfl;rw [e1,Zbf,hs];unfold Z7g Zmt
 cases opV P (AS.ev E ⟨τ,H⟩) ⟨d,op,ty,pos,af,none⟩<;>rfl
@[go_sem] theorem opsA_move (x:Operand):Zub P E ops Q (⟨d,.move x,ty,pos,af,none⟩::rest) ⟨τ,H⟩=Zub P E ops Q rest (AS.put ⟨τ,H⟩ d (AS.ev E ⟨τ,H⟩ x)):=Z9b ops _ fun _=>rfl
@[go_sem] theorem opsA_assign (x:Operand):Zub P E ops Q (⟨d,.assign x,ty,pos,af,none⟩::rest) ⟨τ,H⟩=Zub P E ops Q rest (AS.put ⟨τ,H⟩ d (AS.ev E ⟨τ,H⟩ x)):=Z9b ops _ fun _=>rfl
def Zh6 (c a b:V):Option V:=match c with | .bool true=>some a | .bool false=>some b | _=>none
@[go_sem] theorem pickV_true (a b:V):Zh6 (.bool true) a b=some a:=rfl
@[go_sem] theorem pickV_false (a b:V):Zh6 (.bool false) a b=some b:=rfl
@[go_sem] theorem pickV_bools (c a b:Bool):Zh6 (.bool c) (.bool a) (.bool b)=some (.bool (if c then a else b)):=by cases c<;>rfl
@[go_sem] theorem opsA_pick (c a b:Operand):Zub P E ops Q (⟨d,.pick c a b,ty,pos,af,none⟩::rest) ⟨τ,H⟩ =
  Z7g P E ops Q rest d τ H (Zh6 (AS.ev E ⟨τ,H⟩ c) (AS.ev E ⟨τ,H⟩ a) (AS.ev E ⟨τ,H⟩ b)):=Z9b ops _ fun _=>rfl
@[go_sem] theorem opsA_binOp (op:BinOp) (t:TypeId) (x y:Operand) (u:TypeId):Zub P E ops Q (⟨d,.binOp op t x y u,ty,pos,af,none⟩::rest) ⟨τ,H⟩ =
  Z7g P E ops Q rest d τ H (Zhm P op t (AS.ev E ⟨τ,H⟩ x) (AS.ev E ⟨τ,H⟩ y)):=Z9b ops _ fun _=>rfl
@[go_sem] theorem opsA_unOp (op:UnOp) (t:TypeId) (x:Operand):Zub P E ops Q (⟨d,.unOp op t x,ty,pos,af,none⟩::rest) ⟨τ,H⟩ =
  Z7g P E ops Q rest d τ H (unV op (AS.ev E ⟨τ,H⟩ x)):=Z9b ops _ fun _=>rfl
@[go_sem] theorem Z37 (t u:TypeId) (x:Operand):Zub P E ops Q (⟨d,.convert t u x,ty,pos,af,none⟩::rest) ⟨τ,H⟩ =
  Z7g P E ops Q rest d τ H (Zfu P t u (AS.ev E ⟨τ,H⟩ x)):=Z9b ops _ fun _=>rfl
def Zoy (t:V) (i:Nat):Option V:=match t with | .tuple vs=>vs[i]? | _=>none
@[go_sem] theorem Za5 (vs:List V) (i:Nat):Zoy (.tuple vs) i=vs[i]? := rfl
@[go_sem] theorem Z27 (x:Operand) (i:Nat):Zub P E ops Q (⟨d,.extract x i,ty,pos,af,none⟩::rest) ⟨τ,H⟩ =
  Z7g P E ops Q rest d τ H (Zoy (AS.ev E ⟨τ,H⟩ x) i):=Z9b ops _ fun _=>rfl
@[go_sem] theorem Z74 (t:TypeId) (x:Operand) (f:Nat):Zub P E ops Q (⟨d,.fieldAddr t x f,ty,pos,af,none⟩::rest) ⟨τ,H⟩ =
  Z7g P E ops Q rest d τ H (Z5d P t (AS.ev E ⟨τ,H⟩ x) f):=Z9b ops _ fun _=>rfl
@[go_sem] theorem Z64 (t:TypeId) (x i:Operand):Zub P E ops Q (⟨d,.indexAddr t x i,ty,pos,af,none⟩::rest) ⟨τ,H⟩ =
  Z7g P E ops Q rest d τ H (Z1b P t (AS.ev E ⟨τ,H⟩ x) (AS.ev E ⟨τ,H⟩ i)):=Z9b ops _ fun _=>rfl
@[go_sem] theorem opsA_index (t:TypeId) (x i:Operand):Zub P E ops Q (⟨d,.index t x i,ty,pos,af,none⟩::rest) ⟨τ,H⟩ =
  Z7g P E ops Q rest d τ H (Znh P t (AS.ev E ⟨τ,H⟩ x) (AS.ev E ⟨τ,H⟩ i)):=Z9b ops _ fun _=>rfl
@[go_sem] theorem opsA_slice (t:TypeId) (x:Operand) (lo hi mx:Option Operand):Zub P E ops Q (⟨d,.slice t x lo hi mx,ty,pos,af,none⟩::rest) ⟨τ,H⟩ =
  Z7g P E ops Q rest d τ H (Z2e P t (AS.ev E ⟨τ,H⟩ x) (lo.map (AS.ev E ⟨τ,H⟩)) (hi.map (AS.ev E ⟨τ,H⟩)) (mx.map (AS.ev E ⟨τ,H⟩))):=Z9b ops _ fun _=>rfl
@[go_sem] theorem opsA_build (t:TypeId) (l:List (Nat × Operand)):Zub P E ops Q (⟨d,.build t ⟨l⟩,ty,pos,af,none⟩::rest) ⟨τ,H⟩ =
  Z7g P E ops Q rest d τ H (Zzf P t (l.map fun p=>(p.1,AS.ev E ⟨τ,H⟩ p.2))):=Z9b ops _ fun _=>rfl
@[go_sem] theorem Zl6 (fn:Fn) (l m:List Operand):Zub P E ops Q (⟨d,.makeFunc fn ⟨l⟩ ⟨m⟩,ty,pos,af,none⟩::rest) ⟨τ,H⟩ =
  Zub P E ops Q rest (AS.put ⟨τ,H⟩ d (.func fn (l.map (AS.ev E ⟨τ,H⟩)) (m.map (AS.ev E ⟨τ,H⟩)))):=Z9b ops _ fun _=>rfl
@[go_sem] theorem maxL_two (k k':IntKind) (x y:Int):Z94 [.int k x,.int k' y]=some (.int k (if y > x then y else x)):=rfl
@[go_sem] theorem maxL_three (k k' k'':IntKind) (x y z:Int):Z94 [.int k x,.int k' y,.int k'' z]=some (.int k (if z > (if y > x then y else x) then z else (if y > x then y else x))):=rfl
@[go_sem] theorem opsA_max (l:List Operand) (ats:List TypeId):Zub P E ops Q (⟨d,.call ⟨.builtin .max,⟨l⟩,⟨ats⟩⟩,ty,pos,af,none⟩::rest) ⟨τ,H⟩ =
  Z7g P E ops Q rest d τ H (Z94 (l.map (AS.ev E ⟨τ,H⟩))):=Z9b ops _ fun _=>rfl
@[go_sem] theorem opsA_len (x:Operand) (t:TypeId):Zub P E ops Q (⟨d,.call ⟨.builtin .len,⟨[x]⟩,⟨[t]⟩⟩,ty,pos,af,none⟩::rest) ⟨τ,H⟩ =
  Z7g P E ops Q rest d τ H (Ze1 P t (AS.ev E ⟨τ,H⟩ x)):=Z9b ops _ fun _=>rfl
@[go_sem] theorem Zk6 (x:Operand):Zub P E ops Q (⟨d,.nilCheck x,ty,pos,af,none⟩::rest) ⟨τ,H⟩ =
  Z7g P E ops Q rest d τ H (opV P (AS.ev E ⟨τ,H⟩) ⟨d,.nilCheck x,ty,pos,af,none⟩):=Z9b ops _ fun _=>rfl
theorem Zlc (op:Op):Zub P E ops Q (⟨d,op,ty,pos,af,none⟩::rest) ⟨τ,H⟩=Z1a P E ⟨τ,H⟩ ⟨d,op,ty,pos,af,none⟩ fun v H'=>Zub P E ops Q rest (AS.put ⟨τ,H'⟩ d v):=by
 rw [Z2j];rfl
@[go_sem] theorem opsA_load (t:TypeId) (x:Operand):Zub P E ops Q (⟨d,.load t x,ty,pos,af,none⟩::rest) ⟨τ,H⟩ =
  Z7g P E ops Q rest d τ H (Z7b P H t (AS.ev E ⟨τ,H⟩ x)):=by
 rw [Zlc];simp only [Z1a,Z7g,Zmt]
 cases Z7b P H t (AS.ev E ⟨τ,H⟩ x)<;>rfl
@[go_sem] theorem opsA_store (t:TypeId) (p x:Operand):Zub P E ops Q (⟨d,.store t p x,ty,pos,af,none⟩::rest) ⟨τ,H⟩ =
  contH P E ops Q rest d τ (Zwl P H t (AS.ev E ⟨τ,H⟩ p) (AS.ev E ⟨τ,H⟩ x)):=by
 rw [Zlc];simp only [Z1a,contH,Zmt]
 cases Zwl P H t (AS.ev E ⟨τ,H⟩ p) (AS.ev E ⟨τ,H⟩ x)<;>rfl
def Z4c (P:Program) (t:TypeId):Option (List V):=(Zpf P t).bind fun z=>if z.solid then some z.cells else none
@[go_sem] theorem opsA_alloc (t:TypeId) (e:Nat):Zub P E ops Q (⟨some e,.alloc t,ty,pos,af,none⟩::rest) ⟨τ,H⟩ =
  Zf4 P E ops Q rest e τ H (Z4c P t):=by
 rw [Zlc];simp only [Z1a,Z4c,Zf4]
 cases Zpf P t with
 | none=>rfl
 | some z =>
  simp only [Option.bind_some]
  cases hz:z.solid with
  | false=>simp [Zmt]
  | true=>simp [Zmt,AS.put]
def Zz1 (v:V):Option (List V):=if v.solid then some v.cells else none
@[go_sem] theorem opsA_box (t:TypeId) (x:Operand) (e:Nat):Zub P E ops Q (⟨some e,.box t x,ty,pos,af,none⟩::rest) ⟨τ,H⟩ =
  Zf4 P E ops Q rest e τ H (Zz1 (AS.ev E ⟨τ,H⟩ x)):=by
 rw [Zlc];simp only [Z1a,Zz1,Zf4]
 cases hz:(AS.ev E ⟨τ,H⟩ x).solid with
 | false=>simp [Zmt]
 | true=>simp [Zmt,AS.put]
def Zto (P:Program) (t:TypeId) (len:Nat) (parts:List (Nat × V)):Option (Nat × Nat × List V) :=
 match P.underlying t with
 | some (.slice e)=>match Zqb P e,Z4c P e with
  | some E,some z=>if z.length=E∧len * E≤16777216 then (Zwd (fun i=>some (i * E,E)) (Zcs len z) parts).map fun cs=>(E,len,cs) else none
  | _,_=>none
 | _=>none
@[go_sem] theorem Zr2 (t:TypeId) (len e:Nat) (l:List (Nat × Operand)):Zub P E ops Q (⟨some e,.buildSlice t len ⟨l⟩,ty,pos,af,none⟩::rest) ⟨τ,H⟩ =
  contS P E ops Q rest e τ H (Zto P t len (l.map fun p=>(p.1,AS.ev E ⟨τ,H⟩ p.2))):=by
 rw [Zlc];simp only [Z1a,Zhd,Zto,Z4c,contS]
 cases P.underlying t with
 | none=>rfl
 | some k =>
  cases k<;>try rfl
  rename_i e';simp only
  cases Zqb P e' with
  | none=>rfl
  | some n =>
   cases Zpf P e' with
   | none=>rfl
   | some z =>
    simp only [Option.bind_some]
    cases hz:z.solid with
    | false=>simp [Zmt]
    | true =>
     simp only [if_true,true_and]
     by_cases hc:z.cells.length=n∧len * n≤16777216
     ·rw [if_pos hc]
      simp only [hc.1,hc.2,true_and]
      cases Zwd (fun i=>some (i * n,n)) (Zcs len z.cells) (l.map fun p=>(p.1,AS.ev E ⟨τ,H⟩ p.2)) with
      | none=>simp [Zmt]
      | some cs=>simp [Zmt,AS.put]
     ·rw [if_neg hc]
      simp only [Zmt];rw [← and_assoc];simp [hc]
def msCells (P:Program) (t:TypeId) (len cap:V):Option (Nat × Nat × List V) :=
 match P.underlying t,len,cap with
 | some (.slice e),.int _ n,.int _ m=>match Zqb P e,Zpq P e,Z4c P e with
  | some E,some bytes,some z=>if z.length=E∧0≤n∧n≤m∧m≤4611686018427387904∧bytes * m≤281474976710656 then some (E,n.toNat,Zcs m.toNat z) else none
  | _,_,_=>none
 | _,_,_=>none
def callC (P:Program) (E:Ent) (ops:Array Oper) (Q:AS→Prop) (rest:List Oper) (d:Option Nat) (τ : Nat→V) (H:Heap) (f:V) (args:List V):Prop :=
 match f with
 | .func (.func fid) first cap=>CallP P E.G E.kp fid (first++args++cap) H fun v H'=>Zub P E ops Q rest (AS.put ⟨τ,H'⟩ d v)
 | _=>False
def CallC (P:Program) (E:Ent) (ops:Array Oper) (Q:AS→Prop) (rest:List Oper) (d:Option Nat) (τ : Nat→V) (H:Heap) (fid:FuncId) (args:List V):Prop :=
 match E.kp with
 | none=>CallA P E.G fid args H fun v H'=>Zub P E ops Q rest (AS.put ⟨τ,H'⟩ d v)
 | some k=>CallP P E.G (some k) fid args H fun v H'=>Zub P E ops Q rest (AS.put ⟨τ,H'⟩ d v)
@[go_sem] theorem callC_func (fid:FuncId) (first cap args:List V):callC P E ops Q rest d τ H (.func (.func fid) first cap) args=CallC P E ops Q rest d τ H fid (first++args++cap):=by
 simp only [callC,CallC]
 cases E.kp with
 | none=>exact Zbs
 | some k=>rfl
@[go_sem] theorem opsA_call (f:Operand) (l:List Operand) (ats:Array TypeId):Zub P E ops Q (⟨d,.call ⟨.value f,⟨l⟩,ats⟩,ty,pos,af,none⟩::rest) ⟨τ,H⟩ =
  callC P E ops Q rest d τ H (AS.ev E ⟨τ,H⟩ f) (l.map (AS.ev E ⟨τ,H⟩)):=by
 rw [Zlc];rfl
def appC (P:Program) (E:Ent) (ops:Array Oper) (Q:AS→Prop) (rest:List Oper) (e:Nat) (τ : Nat→V) (H:Heap) (ats:List TypeId) (a b:V):Prop :=
 Zml P H (E.q+e) ⟨ats⟩ a b fun v H'=>Zub P E ops Q rest (AS.put ⟨τ,H'⟩ (some e) v)
@[go_sem] theorem opsA_append (x y:Operand) (ats:List TypeId) (e:Nat):Zub P E ops Q (⟨some e,.call ⟨.builtin .append,⟨[x,y]⟩,⟨ats⟩⟩,ty,pos,af,none⟩::rest) ⟨τ,H⟩ =
  appC P E ops Q rest e τ H ats (AS.ev E ⟨τ,H⟩ x) (AS.ev E ⟨τ,H⟩ y):=by
 rw [Zlc];rfl
def appOf (P:Program) (ats:List TypeId):Option (Nat × Nat) :=
 match ats with
 | [t0,t1]=>match P.underlying t0,P.underlying t1 with
  | some (.slice _),some (.int _)=>none
  | some (.slice e),some _=>match Zqb P e,Zpq P e,Z4c P e with
   | some E,some bytes,some z=>if z.length=E then some (E,bytes) else none
   | _,_,_=>none
  | _,_=>none
 | _=>none
def Zk8 (P:Program) (E:Ent) (ops:Array Oper) (Q:AS→Prop) (rest:List Oper) (e:Nat) (τ : Nat→V) (H:Heap) (m bytes:Nat) (a:V) (src:Option (Nat × List V)) (ob:AObj):Prop :=
 match src with
 | none=>False
 | some (n,xc) =>
  match a with
  | .nils=>Ztf bytes n∧(n=0→Zub P E ops Q rest ⟨upd τ e .nils,H⟩)∧(n≠0→∀ g,Zub P E ops Q rest ⟨upd τ e (.msl (E.q+e) g 0 n m),upd H (E.q+e) (.cells .new g 0 xc)⟩)
  | .slice c clip m' l=>m'=m∧Ztf bytes (l.length+n)∧(n=0→Zub P E ops Q rest ⟨upd τ e (.slice c clip m l),H⟩) ∧
    (n≠0→clip=true∧∀ g,Zub P E ops Q rest ⟨upd τ e (.msl (E.q+e) g 0 (l.length+n) m),upd H (E.q+e) (.cells .new g 0 (flat l++xc))⟩)
  | .msl o g off len m'=>m'=m∧Ztf bytes (len+n) ∧
   match ob with
   | .cells c g' fz cs=>g=g'∧off+len * m≤cs.length∧fz≤off+len * m ∧
     ∀ g2,Zub P E ops Q rest ⟨upd τ e (.msl o g2 0 (len+n) m),upd H o (.cells c.moved g2 (fz-off) ((cs.drop off).take (len * m)++xc))⟩
   | _=>False
  | _=>False
def obS (H:Heap) (a:V):AObj:=match a with | .msl o _ _ _ _=>H o | _ => .dead
@[go_sem] theorem Zs2 (H:Heap) (o g off len m:Nat):obS H (.msl o g off len m)=H o:=rfl
@[go_sem] theorem obS_nils (H:Heap):obS H .nils = .dead:=rfl
@[go_sem] theorem obS_slice (H:Heap) (c:Col) (b:Bool) (m:Nat) (l:List V):obS H (.slice c b m l) = .dead:=rfl
theorem appC_E {ats:List TypeId} {m bytes:Nat} (h:appOf P ats=some (m,bytes)) (e:Nat) (a b:V):appC P E ops Q rest e τ H ats a b=Zk8 P E ops Q rest e τ H m bytes a (Z9c H m b) (obS H a):=by
 unfold appOf at h
 split at h
 case h_2=>simp at h
 rename_i t0 t1
 split at h
 ·simp at h
 ·rename_i e' bt hne h0 h1
  split at h
  ·rename_i N B z hs hb hz
   split at h
   ·rename_i hzl
    simp at h;obtain ⟨rfl,rfl⟩:=h
    have hzv:∃ zv,Zpf P e'=some zv∧zv.solid=true∧zv.cells=z:=by
     unfold Z4c at hz
     cases hzz:Zpf P e' with
     | none=>rw [hzz] at hz;simp at hz
     | some zv =>
      rw [hzz] at hz;simp only [Option.bind_some] at hz
      split at hz
      ·rename_i h1;simp at hz;exact ⟨zv,rfl,h1,hz⟩
      ·simp at hz
    obtain ⟨zv,h2,h3,h4⟩:=hzv;unfold appC Zml;simp only [h0,h1]
    have fin:Zjj H (E.q+e) N B a b (fun v H'=>Zub P E ops Q rest (AS.put ⟨τ,H'⟩ (some e) v))=Zk8 P E ops Q rest e τ H N B a (Z9c H N b) (obS H a):=by
     unfold Zjj Zk8
     cases Z9c H N b with
     | none=>rfl
     | some p =>
      obtain ⟨n,xc⟩:=p
      cases a<;>try rfl
      all_goals (rename_i o g off len m';simp only [obS];cases H o<;>rfl)
    rw [← fin]
    cases bt<;>first | exact absurd rfl (hne _) | simp only [hs,hb,h2,h3,h4,hzl,true_and]
   ·simp at h
  ·simp at h
 ·simp at h
def srcK (m:Nat) (ob:AObj) (x:V):Option (Nat × List V) :=
 match x with
 | .nils=>some (0,[])
 | .slice _ _ E' l=>if E'=m then some (l.length,flat l) else none
 | .msl _ g off len E'=>match ob with
  | .cells _ g' _ cs=>if E'=m∧g=g'∧off+len * m≤cs.length then some (len,(cs.drop off).take (len * m)) else none
  | _=>none
 | .str s=>if m=1 then some (s.length,s.map fun b => .int .u8 b.toNat) else none
 | _=>none
@[go_sem] theorem srcCells_K (H:Heap) (m:Nat) (x:V):Z9c H m x=srcK m (obS H x) x:=by
 unfold Z9c srcK
 cases x<;>rfl
@[go_sem] theorem srcK_slice (m:Nat) (ob:AObj) (c:Col) (b:Bool) (E':Nat) (l:List V):srcK m ob (.slice c b E' l)=if E'=m then some (l.length,flat l) else none:=rfl
@[go_sem] theorem srcK_msl (m:Nat) (o g off len E':Nat) (c:Col) (g' fz:Nat) (cs:List V):srcK m (.cells c g' fz cs) (.msl o g off len E') =
  if E'=m∧g=g'∧off+len * m≤cs.length then some (len,(cs.drop off).take (len * m)) else none:=rfl
theorem Zpu (e m bytes n:Nat) (xc:List V) (ob:AObj):Zk8 P E ops Q rest e τ H m bytes .nils (some (n,xc)) ob =
  (Ztf bytes n∧(n=0→Zub P E ops Q rest ⟨upd τ e .nils,H⟩)∧(n≠0→∀ g,Zub P E ops Q rest ⟨upd τ e (.msl (E.q+e) g 0 n m),upd H (E.q+e) (.cells .new g 0 xc)⟩)):=rfl
@[go_sem] theorem Zzy (e m bytes n:Nat) (xc:List V) (o g off len m':Nat) (c:Col) (g' fz:Nat) (cs:List V):Zk8 P E ops Q rest e τ H m bytes (.msl o g off len m') (some (n,xc)) (.cells c g' fz cs) =
  (m'=m∧Ztf bytes (len+n)∧g=g'∧off+len * m≤cs.length∧fz≤off+len * m ∧
     ∀ g2,Zub P E ops Q rest ⟨upd τ e (.msl o g2 0 (len+n) m),upd H o (.cells c.moved g2 (fz-off) ((cs.drop off).take (len * m)++xc))⟩):=rfl
@[go_sem] theorem contV_some (v:V):Z7g P E ops Q rest d τ H (some v)=Zub P E ops Q rest (AS.put ⟨τ,H⟩ d v):=rfl
@[go_sem] theorem contH_some (H:Heap):contH P E ops Q rest d τ (some H)=Zub P E ops Q rest (AS.put ⟨τ,H⟩ d (.tuple [])):=rfl
@[go_sem] theorem contP_some (e:Nat) (cs:List V):Zf4 P E ops Q rest e τ H (some cs)=∀ g,Zub P E ops Q rest ⟨upd τ e (.ptr (E.q+e) g 0),upd H (E.q+e) (.cells .new g 0 cs)⟩:=rfl
@[go_sem] theorem contS_some (e m len:Nat) (cs:List V):contS P E ops Q rest e τ H (some (m,len,cs))=∀ g,Zub P E ops Q rest ⟨upd τ e (.msl (E.q+e) g 0 len m),upd H (E.q+e) (.cells .new g 0 cs)⟩:=rfl
end
section
variable (P) (t:TypeId) (k:IntKind) (a b:Int)
theorem Zqd (op:BinOp) (h1:op ≠ .shl) (h2:op ≠ .shr):Zhm P op t (.int k a) (.int k b)=intV op k a b:=by
 simp only [Zhm];rw [if_neg (by simp [h1,h2])];simp
@[go_sem] theorem binV_add:Zhm P .add t (.int k a) (.int k b)=some (.int k (k.wrap (a+b))):=Zqd P t k a b .add (by simp) (by simp)
@[go_sem] theorem binV_sub:Zhm P .sub t (.int k a) (.int k b)=some (.int k (k.wrap (a-b))):=Zqd P t k a b .sub (by simp) (by simp)
@[go_sem] theorem binV_mul:Zhm P .mul t (.int k a) (.int k b)=some (.int k (k.wrap (a * b))):=Zqd P t k a b .mul (by simp) (by simp)
@[go_sem] theorem binV_quo:Zhm P .quo t (.int k a) (.int k b)=if b=0 then none else some (.int k (k.wrap (a.tdiv b))):=Zqd P t k a b .quo (by simp) (by simp)
@[go_sem] theorem binV_eql:Zhm P .eql t (.int k a) (.int k b)=some (.bool (a==b)):=Zqd P t k a b .eql (by simp) (by simp)
@[go_sem] theorem binV_neq:Zhm P .neq t (.int k a) (.int k b)=some (.bool (a != b)):=Zqd P t k a b .neq (by simp) (by simp)
@[go_sem] theorem binV_lss:Zhm P .lss t (.int k a) (.int k b)=some (.bool (decide (a<b))):=Zqd P t k a b .lss (by simp) (by simp)
@[go_sem] theorem binV_leq:Zhm P .leq t (.int k a) (.int k b)=some (.bool (decide (a≤b))):=Zqd P t k a b .leq (by simp) (by simp)
@[go_sem] theorem binV_gtr:Zhm P .gtr t (.int k a) (.int k b)=some (.bool (decide (a > b))):=Zqd P t k a b .gtr (by simp) (by simp)
@[go_sem] theorem binV_geq:Zhm P .geq t (.int k a) (.int k b)=some (.bool (decide (a≥b))):=Zqd P t k a b .geq (by simp) (by simp)
end
@[go_sem] theorem binV_str (op:BinOp) (t:TypeId) (a b:List UInt8):Zhm P op t (.str a) (.str b)=strV op a b:=rfl
@[go_sem] theorem strV_eql (a b:List UInt8):strV .eql a b=some (.bool (a==b)):=rfl
@[go_sem] theorem strV_neq (a b:List UInt8):strV .neq a b=some (.bool (!(a==b))):=rfl
@[go_sem] theorem unV_not (b:Bool):unV .not (.bool b)=some (.bool !b):=rfl
@[go_sem] theorem unV_neg (k:IntKind) (n:Int):unV .neg (.int k n)=some (.int k (k.wrap (0-n))):=rfl
def fldOf (P:Program) (t:TypeId) (f:Nat):Option (Nat × Bool × Nat) :=
 match P.underlying t with
 | some (.struct fs)=>match fs[f]? with
  | some fd=>match Zxf P fd.type,Zqb P fd.type with
   | some b,some (n+1)=>if b=true∨n=0 then some (fd.offset,b,n+1) else none
   | _,_=>none
  | none=>none
 | _=>none
def Z6k (b:Bool) (n:Nat) (l:List V) (off:Nat):Option V :=
 if b then (if off+n≤l.length then some (.agg ((l.drop off).take n)) else none) else l[off]?
@[go_sem] theorem partC_true (n:Nat) (l:List V) (off:Nat):Z6k true n l off=if off+n≤l.length then some (.agg ((l.drop off).take n)) else none:=rfl
@[go_sem] theorem partC_false (n:Nat) (l:List V) (off:Nat):Z6k false n l off=l[off]? := rfl
theorem Zsg {t:TypeId} {b:Bool} {n:Nat} (h1:Zxf P t=some b) (h2:Zqb P t=some n) (h3:b=true∨n=1) (l:List V) (off:Nat):Z1j P t l off=Z6k b n l off:=by
 unfold Z1j Z6k;rw [h1,h2]
 cases b with
 | true=>rfl
 | false =>
  rcases h3 with h3 | h3
  ·cases h3
  ·subst h3;rfl
def fldK (x:Option (Nat × Bool × Nat)) (a:V):Option V :=
 match x,a with
 | some (k,_,_),.ptr o g off=>some (.ptr o g (off+k))
 | some (k,b,n),.view c (.agg l)=>(Z6k b n l k).map (.view c)
 | _,_=>none
@[go_sem] theorem fldK_ptr (k n:Nat) (b:Bool) (o g off:Nat):fldK (some (k,b,n)) (.ptr o g off)=some (.ptr o g (off+k)):=rfl
@[go_sem] theorem fldK_view (k n:Nat) (b:Bool) (c:Col) (l:List V):fldK (some (k,b,n)) (.view c (.agg l))=(Z6k b n l k).map (.view c):=rfl
theorem Z7t {t:TypeId} {f:Nat} {x:Nat × Bool × Nat} (h:fldOf P t f=some x) (a:V):Z5d P t a f=fldK (some x) a:=by
 unfold fldOf at h;unfold Z5d
 split at h
 ·rename_i fs hu
  rw [hu];simp only
  split at h
  ·rename_i fd hf
   rw [hf];simp only
   split at h
   ·rename_i b n h1 h2
    split at h
    ·rename_i hc
     simp at h;subst h;rw [h2];simp only;unfold fldK
     cases a<;>try rfl
     rename_i c v
     cases v<;>try rfl
     rename_i l;simp only;rw [Zsg h1 h2 (hc.imp id (by omega))]
    ·simp at h
   ·simp at h
  ·simp at h
 ·simp at h
def Zyf (P:Program) (t:TypeId):Option Nat:=match P.underlying t with | some (.slice e)=>Zqb P e | _=>none
def Ziw (P:Program) (t:TypeId):Bool:=match P.underlying t with | some .string=>true | _=>false
def Zpv (P:Program) (t:TypeId):Option (Bool × Nat) :=
 match Zxf P t,Zqb P t with
 | some true,some n=>some (true,n)
 | some false,some 1=>some (false,1)
 | _,_=>none
def Z77 (e:Option Nat) (a i:V):Option V :=
 match e,a,i with
 | some m,.slice c _ E l,.int _ n=>if m=E∧0≤n then (l[n.toNat]?).map (.view c) else none
 | some m,.msl o g off len E,.int _ n=>if m=E∧0≤n∧n<len then some (.ptr o g (off+n.toNat * E)) else none
 | _,_,_=>none
theorem Zyt {t:TypeId} {m:Nat} (h:Zyf P t=some m) (a i:V):Z1b P t a i=Z77 (some m) a i:=by
 unfold Zyf at h;unfold Z1b Z77
 split at h
 ·rename_i e hu
  rw [hu]
  cases i<;>try (cases a<;>rfl)
  cases a<;>try rfl
  ·simp only [h,Option.some.injEq]
  ·simp only [h,Option.some.injEq]
 ·simp at h
@[go_sem] theorem idxK_slice (m:Nat) (c:Col) (clip:Bool) (E:Nat) (l:List V) (k:IntKind) (n:Int):Z77 (some m) (.slice c clip E l) (.int k n)=if m=E∧0≤n then (l[n.toNat]?).map (.view c) else none:=rfl
@[go_sem] theorem idxK_msl (m o g off len E:Nat) (k:IntKind) (n:Int):Z77 (some m) (.msl o g off len E) (.int k n)=if m=E∧0≤n∧n<len then some (.ptr o g (off+n.toNat * E)) else none:=rfl
def Zj0 (sl:Bool) (a:V):Option V :=
 match a with
 | .nils=>if sl then some (.int .i64 0) else none
 | .slice _ _ _ l=>if sl then some (.int .i64 l.length) else none
 | .msl _ _ _ len _=>if sl then some (.int .i64 len) else none
 | .str s=>if sl then none else some (.int .i64 s.length)
 | _=>none
theorem Zi0 {t:TypeId} {m:Nat} (h:Zyf P t=some m) (a:V):Ze1 P t a=Zj0 true a:=by
 unfold Zyf at h;unfold Ze1 Zj0
 split at h
 ·rename_i e hu
  rw [hu]
  cases a<;>rfl
 ·simp at h
theorem Zs6 {t:TypeId} (h:Ziw P t=true) (a:V):Ze1 P t a=Zj0 false a:=by
 unfold Ziw at h;unfold Ze1 Zj0
 split at h
 ·rename_i hu
  rw [hu]
  cases a<;>rfl
 ·simp at h
@[go_sem] theorem lenK_nils:Zj0 true .nils=some (.int .i64 0):=rfl
@[go_sem] theorem lenK_slice (c:Col) (clip:Bool) (E:Nat) (l:List V):Zj0 true (.slice c clip E l)=some (.int .i64 l.length):=rfl
@[go_sem] theorem lenK_msl (o g off len E:Nat):Zj0 true (.msl o g off len E)=some (.int .i64 len):=rfl
@[go_sem] theorem lenK_str (s:List UInt8):Zj0 false (.str s)=some (.int .i64 s.length):=rfl
def Zfm (x:Option (Bool × Nat)) (ob:AObj) (a:V):Option V :=
 match x,a with
 | some (b,n),.ptr _ g off=>match ob with
  | .cells _ g' _ cs=>if g=g' then Z6k b n cs off else none
  | _=>none
 | some (b,n),.view _ v=>match v,b with
  | .agg l,true=>if n=l.length then some (.agg l) else none
  | .agg _,false=>none
  | .top,_=>none
  | .tuple _,_=>none
  | _,true=>none
  | v,false=>some v
 | _,_=>none
def obOf (H:Heap) (a:V):AObj:=match a with | .ptr o _ _=>H o | _ => .dead
theorem readV_K {t:TypeId} {b:Bool} {n:Nat} (h:Zpv P t=some (b,n)) (H:Heap) (a:V):Z7b P H t a=Zfm (some (b,n)) (obOf H a) a:=by
 unfold Zpv at h
 have hh:Zxf P t=some b∧Zqb P t=some n∧(b=true∨n=1):=by
  split at h<;>simp at h<;>obtain ⟨rfl,rfl⟩:=h<;>rename_i h1 h2
  ·exact ⟨h1,h2,.inl rfl⟩
  ·exact ⟨h1,h2,.inr rfl⟩
 obtain ⟨h1,h2,h3⟩:=hh;unfold Z7b
 cases a<;>try (simp [Zqc,Zfm];done)
 ·rename_i c v
  simp only [Zqc,Zfm,h1,h2]
  cases b<;>cases v<;>simp
 ·rename_i o g off
  simp only [Zfm,obOf]
  cases H o with
  | dead=>rfl
  | mp=>rfl
  | cells c g' fz cs =>
   simp only;rw [Zsg h1 h2 h3]
@[go_sem] theorem obOf_ptr (H:Heap) (o g off:Nat):obOf H (.ptr o g off)=H o:=rfl
@[go_sem] theorem loadK_ptr (b:Bool) (n o g off:Nat) (c:Col) (g' fz:Nat) (cs:List V):Zfm (some (b,n)) (.cells c g' fz cs) (.ptr o g off)=if g=g' then Z6k b n cs off else none:=rfl
@[go_sem] theorem loadK_agg (n:Nat) (ob:AObj) (c:Col) (l:List V):Zfm (some (true,n)) ob (.view c (.agg l))=if n=l.length then some (.agg l) else none:=rfl
@[go_sem] theorem loadK_int (n:Nat) (ob:AObj) (c:Col) (k:IntKind) (i:Int):Zfm (some (false,n)) ob (.view c (.int k i))=some (.int k i):=rfl
@[go_sem] theorem loadK_str (n:Nat) (ob:AObj) (c:Col) (s:List UInt8):Zfm (some (false,n)) ob (.view c (.str s))=some (.str s):=rfl
@[go_sem] theorem loadK_func (n:Nat) (ob:AObj) (c:Col) (fn:Fn) (a b:List V):Zfm (some (false,n)) ob (.view c (.func fn a b))=some (.func fn a b):=rfl
def Zx1 (sz:Option Nat) (H:Heap) (ob:AObj) (a v:V):Option Heap :=
 match a,ob with
 | .ptr o g off,.cells c g' fz cs=>if g=g'∧v.solid=true∧sz=some v.cells.length∧fz≤off∧off+v.cells.length≤cs.length then some (upd H o (.cells c g fz (setAt cs off v.cells))) else none
 | _,_=>none
@[go_sem] theorem storeH_K (H:Heap) (t:TypeId) (a v:V):Zwl P H t a v=Zx1 (Zqb P t) H (obOf H a) a v:=by
 unfold Zwl Zx1
 cases a<;>try rfl
 rename_i o g off;simp only [obOf]
 cases H o<;>rfl
@[go_sem] theorem storeK_ptr (sz:Option Nat) (H:Heap) (o g off:Nat) (c:Col) (g' fz:Nat) (cs:List V) (v:V):Zx1 sz H (.cells c g' fz cs) (.ptr o g off) v =
  if g=g'∧v.solid=true∧sz=some v.cells.length∧fz≤off∧off+v.cells.length≤cs.length then some (upd H o (.cells c g fz (setAt cs off v.cells))) else none:=rfl
@[go_sem] theorem setAt_nil (cs:List V) (off:Nat):setAt cs off []=cs:=rfl
@[go_sem] theorem setAt_cons (cs:List V) (off:Nat) (v:V) (r:List V):setAt cs off (v::r)=setAt (cs.set off v) (off+1) r:=rfl
section
@[go_sem] theorem Zj4 (l:List V):(V.agg l).cells=l:=rfl
@[go_sem] theorem cells_int (k:IntKind) (n:Int):(V.int k n).cells=[.int k n]:=rfl
@[go_sem] theorem cells_bool (b:Bool):(V.bool b).cells=[.bool b]:=rfl
@[go_sem] theorem cells_str (s:List UInt8):(V.str s).cells=[.str s]:=rfl
@[go_sem] theorem cells_msl (o g off len E:Nat):(V.msl o g off len E).cells=[.msl o g off len E]:=rfl
@[go_sem] theorem cells_func (fn:Fn) (a b:List V):(V.func fn a b).cells=[.func fn a b]:=rfl
@[go_sem] theorem solid_agg (l:List V):(V.agg l).solid=true:=rfl
@[go_sem] theorem solid_int (k:IntKind) (n:Int):(V.int k n).solid=true:=rfl
@[go_sem] theorem solid_bool (b:Bool):(V.bool b).solid=true:=rfl
@[go_sem] theorem solid_str (s:List UInt8):(V.str s).solid=true:=rfl
@[go_sem] theorem solid_msl (o g off len E:Nat):(V.msl o g off len E).solid=true:=rfl
@[go_sem] theorem solid_func (fn:Fn) (a b:List V):(V.func fn a b).solid=true:=rfl
@[go_sem] theorem solidC_K (v:V):Zz1 v=if v.solid then some v.cells else none:=rfl
@[go_sem] theorem repV_zero (z:List V):Zcs 0 z=[]:=rfl
@[go_sem] theorem repV_succ (n:Nat) (z:List V):Zcs (n+1) z=z++Zcs n z:=rfl
end
section
variable (P) (t:TypeId)
def Z8k (P:Program) (t:TypeId):Nat :=
 match P.underlying t with
 | some (.pointer _)=>1
 | some (.slice _)=>2
 | some (.func _ _ _)=>3
 | some (.interface _)=>4
 | some (.map _ _)=>5
 | _=>0
def nilK (k:Nat) (a:V):Option Bool :=
 match a with
 | .nilp=>if k=1 then some true else none
 | .view _ _=>if k=1 then some false else none
 | .ptr _ _ _=>if k=1 then some false else none
 | .nils=>if k=2 then some true else none
 | .slice _ _ _ _=>if k=2 then some false else none
 | .msl _ _ _ _ _=>if k=2 then some false else none
 | .nilf=>if k=3 then some true else none
 | .func _ _ _=>if k=3 then some false else none
 | .iface _ _=>if k=4 then some false else none
 | .nilm=>if k=5 then some true else none
 | _=>none
theorem nilB_K (a:V):Z84 P t a=nilK (Z8k P t) a:=by
 unfold Z84 Z8k
 cases h:P.underlying t with
 | none=>cases a<;>rfl
 | some u=>cases u<;>cases a<;>rfl
def Zvf (k:Nat):V:=if k=1 then .nilp else if k=2 then .nils else if k=3 then .nilf else if k=4 then .nili else .nilm
theorem eqV_nil {k:Nat} (h:Z8k P t=k) (hk:k≠0) (a:V):eqV P t a (Zvf k)=nilK k a:=by
 have hf:Zri P t (Zvf k)=true:=by
  subst h;unfold Zri Zvf Z8k at *
  cases hu:P.underlying t with
  | none=>rw [hu] at hk;exact absurd rfl hk
  | some u=>rw [hu] at hk;cases u<;>first | rfl | exact absurd rfl hk
 have hb:∀ x,Zvf k ≠ .bool x:=by
  intro x;unfold Zvf
  repeat' split
  all_goals exact fun h=>by cases h
 rw [← h,← nilB_K];unfold eqV
 split
 ·rename_i x y e
  rw [h] at e;exact absurd e (hb _)
 ·rw [h,if_pos hf]
theorem Zk7 {k:Nat} (h:Z8k P t=k) (hk:k≠0) (a:V):Zhm P .eql t a (Zvf k)=(nilK k a).map .bool∧Zhm P .neq t a (Zvf k)=(nilK k a).map fun r => .bool (!r):=by
 rw [← eqV_nil P t h hk]
 have h1:∀ k' n,Zvf k ≠ .int k' n:=by
  intro k' n;unfold Zvf
  repeat' split
  all_goals exact fun h=>by cases h
 have h2:∀ l,Zvf k ≠ .str l:=by
  intro l;unfold Zvf
  repeat' split
  all_goals exact fun h=>by cases h
 have h3:∀ l,Zvf k ≠ .agg l:=by
  intro l;unfold Zvf
  repeat' split
  all_goals exact fun h=>by cases h
 generalize Zvf k=b at *;unfold Zhm
 constructor
 ·split
  ·exact absurd rfl (h1 _ _)
  ·exact absurd rfl (h2 _)
  ·exact absurd rfl (h3 _)
  ·rfl
 ·split
  ·exact absurd rfl (h1 _ _)
  ·exact absurd rfl (h2 _)
  ·exact absurd rfl (h3 _)
  ·rfl
@[go_sem] theorem nilK_nils:nilK 2 .nils=some true:=rfl
@[go_sem] theorem nilK_slice (c:Col) (b:Bool) (m:Nat) (l:List V):nilK 2 (.slice c b m l)=some false:=rfl
end
def bsK (m:Nat) (z:List V) (len:Nat) (parts:List (Nat × V)):Option (Nat × Nat × List V) :=
 if len * m≤16777216 then (Zwd (fun i=>some (i * m,m)) (Zcs len z) parts).map fun cs=>(m,len,cs) else none
theorem Zk4 {P:Program} {t e:TypeId} {m:Nat} {z:List V} (h1:P.underlying t=some (.slice e)) (h2:Zqb P e=some m) (h3:Z4c P e=some z) (h4:z.length=m) (len:Nat) (parts:List (Nat × V)) :
  Zto P t len parts=bsK m z len parts:=by
 unfold Zto bsK;simp only [h1,h2,h3,h4,true_and]
def Z67 (m:Nat):Nat→Option (Nat × Nat):=fun i=>some (i * m,m)
def Zm5 (tbl:List (Nat × Nat)):Nat→Option (Nat × Nat):=fun i=>tbl[i]?
@[go_sem] theorem bsK_lit (m:Nat) (z:List V) (len:Nat) (parts:List (Nat × V)):bsK m z len parts=if len * m≤16777216 then (Zwd (Z67 m) (Zcs len z) parts).map fun cs=>(m,len,cs) else none:=rfl
@[go_sem] theorem fillV_nil (p:Nat→Option (Nat × Nat)) (cells:List V):Zwd p cells []=some cells:=rfl
@[go_sem] theorem fillV_mul (m:Nat) (cells:List V) (i:Nat) (v:V) (rest:List (Nat × V)):Zwd (Z67 m) cells ((i,v)::rest) =
  if v.solid=true∧v.cells.length=m∧i * m+m≤cells.length then Zwd (Z67 m) (setAt cells (i * m) v.cells) rest else none:=rfl
def fillT (tbl:List (Nat × Nat)) (p:Option (Nat × Nat)) (cells:List V) (v:V) (rest:List (Nat × V)):Option (List V) :=
 match p with
 | none=>none
 | some (off,size)=>if v.solid=true∧v.cells.length=size∧off+size≤cells.length then Zwd (Zm5 tbl) (setAt cells off v.cells) rest else none
@[go_sem] theorem fillV_tbl (tbl:List (Nat × Nat)) (cells:List V) (i:Nat) (v:V) (rest:List (Nat × V)):Zwd (Zm5 tbl) cells ((i,v)::rest)=fillT tbl (tbl[i]?) cells v rest:=rfl
@[go_sem] theorem fillT_some (tbl:List (Nat × Nat)) (off size:Nat) (cells:List V) (v:V) (rest:List (Nat × V)):fillT tbl (some (off,size)) cells v rest =
  if v.solid=true∧v.cells.length=size∧off+size≤cells.length then Zwd (Zm5 tbl) (setAt cells off v.cells) rest else none:=rfl
def tblOf (P:Program) (t:TypeId):Option (List (Nat × Nat)) :=
 match P.underlying t with
 | some (.struct fs)=>fs.toList.mapM fun f=>(Zqb P f.type).map fun n=>(f.offset,n)
 | _=>none
theorem Zdy {α β : Type} {f : α → Option β}:∀ {l:List α} {r:List β},l.mapM f=some r→(l.all fun x=>(f x).isSome)=true∧∀ i:Nat,r[i]? = (l[i]?).bind f
 | [],r,h=>by
  simp at h;subst h;exact ⟨rfl,fun i=>by simp⟩
 | x::l,r,h=>by
  simp only [List.mapM_cons,Option.bind_eq_bind,Option.bind_eq_some_iff,Option.pure_def,Option.some.injEq] at h;obtain ⟨y,hy,ys,hys,rfl⟩:=h;obtain ⟨h1,h2⟩:=Zdy hys;refine ⟨by simp [hy];simpa using h1,fun i=>?_⟩
  cases i with
  | zero=>simp [hy]
  | succ i=>simpa using h2 i
theorem Zuy {P:Program} {t:TypeId} {tbl:List (Nat × Nat)} {z:List V} (h1:tblOf P t=some tbl) (h2:Zpf P t=some (.agg z)) (parts:List (Nat × V)) :
  Zzf P t parts=(Zwd (Zm5 tbl) z parts).map .agg:=by
 unfold tblOf at h1
 cases hu:P.underlying t with
 | none=>rw [hu] at h1;cases h1
 | some k =>
  rw [hu] at h1
  cases k<;>simp only [reduceCtorEq] at h1
  rename_i fs;obtain ⟨h3,h4⟩:=Zdy h1;unfold Zzf;rw [hu,h2]
  have h5:(fs.toList.all fun f=>(Zqb P f.type).isSome)=true:=by simpa using h3
  simp only [h5,Bool.true_and]
  have e:(fun i=>(fs[i]?).bind fun f=>(Zqb P f.type).map fun n=>(f.offset,n))=Zm5 tbl:=by
   funext i
   have:=h4 i;unfold Zm5;rw [this];simp
  rw [e];rfl
def slJ (i j:Option Nat) (f:Nat→Nat→Option V):Option V:=match i,j with | some i,some j=>f i j | _,_=>none
@[go_sem] theorem Zz5 (i j:Nat) (f:Nat→Nat→Option V):slJ (some i) (some j) f=f i j:=rfl
@[go_sem] theorem Zqw (d:Nat):Zoa d none=some d:=rfl
@[go_sem] theorem boundV_int (d:Nat) (k:IntKind) (n:Int):Zoa d (some (.int k n))=if 0≤n then some n.toNat else none:=rfl
def slK (m:Nat) (a:V) (lo hi:Option V):Option V :=
 match a with
 | .slice c clip E l=>slJ (Zoa 0 lo) (Zoa l.length hi) fun i j=>if m=E∧i≤j∧j≤l.length then some (.slice c (clip && j==l.length) E ((l.drop i).take (j-i))) else none
 | .msl o g off len E=>slJ (Zoa 0 lo) (Zoa len hi) fun i j =>
   if m=E∧i≤j∧j≤len then some (if i=0 then .msl o g off j E else if i<j then .msl o g (off+i * E) (j-i) E else .slice .any false E []) else none
 | .nils=>slJ (Zoa 0 lo) (Zoa 0 hi) fun i j=>if i=0∧j=0 then some .nils else none
 | _=>none
theorem Zyh {t:TypeId} {m:Nat} (h:Zyf P t=some m) (a:V) (lo hi:Option V):Z2e P t a lo hi none=slK m a lo hi:=by
 unfold Zyf at h;unfold Z2e slK
 split at h
 ·rename_i e hu
  rw [hu]
  cases a<;>try rfl
  ·simp only [h,Option.isSome_some,if_true]
   cases h1:Zoa 0 lo with
   | none=>rfl
   | some i =>
    cases h2:Zoa 0 hi with
    | none=>cases i<;>rfl
    | some j =>
     simp only [Zqw,Zz5]
     cases i with
     | zero=>cases j<;>rfl
     | succ i=>rw [if_neg (by simp)];rfl
  ·rename_i c clip E l
   simp only [h,Option.some.injEq]
   cases Zoa 0 lo with
   | none=>rfl
   | some i =>
    cases Zoa l.length hi with
    | none=>rfl
    | some j=>rfl
  ·rename_i o g off len E
   simp only [h,Option.some.injEq]
   cases Zoa 0 lo with
   | none=>rfl
   | some i =>
    cases Zoa len hi with
    | none=>rfl
    | some j=>rfl
 ·simp at h
@[go_sem] theorem slK_msl (m o g off len E:Nat) (lo hi:Option V):slK m (.msl o g off len E) lo hi =
  slJ (Zoa 0 lo) (Zoa len hi) fun i j=>if m=E∧i≤j∧j≤len then some (if i=0 then .msl o g off j E else if i<j then .msl o g (off+i * E) (j-i) E else .slice .any false E []) else none:=rfl
@[go_sem] theorem slK_nils (m:Nat) (lo hi:Option V):slK m .nils lo hi=slJ (Zoa 0 lo) (Zoa 0 hi) fun i j=>if i=0∧j=0 then some .nils else none:=rfl
theorem Zry {s d:TypeId} {kd:IntKind} (h1:(P.underlying s).isSome=true) (h2:P.underlying d=some (.int kd)) (k:IntKind) (n:Int):Zfu P s d (.int k n)=some (.int kd (kd.wrap n)):=by
 unfold Zfu;rw [h2]
 cases h:P.underlying s with
 | none=>rw [h] at h1;cases h1
 | some t=>rfl
end
end Go.Hs
end
