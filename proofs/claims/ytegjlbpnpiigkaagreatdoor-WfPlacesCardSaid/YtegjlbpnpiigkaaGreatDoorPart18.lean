/- Part 18 of a proof; no condition. -/
import Derived.Test.YtegjlbpnpiigkaaGreatDoorPart17
import Derived.Attr
set_option linter.unusedSimpArgs false
set_option linter.unusedVariables false
section
namespace Go.Hs
section
variable {P:Program} {E:Ent}
def Zwt {α : Type} (o:Option α) (K : α → Prop):Prop:=match o with | some v=>K v | none=>False
def Zbh (P:Program) (E:Ent) (ops:Array Oper) (Q:AS→Prop) (rest:List Oper) (d:Option Nat) (τ : Nat→V) (H:Heap) (o:Option V):Prop:=Zwt o fun v=>Zub P E ops Q rest (AS.put ⟨τ,H⟩ d v)
def contH (P:Program) (E:Ent) (ops:Array Oper) (Q:AS→Prop) (rest:List Oper) (d:Option Nat) (τ : Nat→V) (o:Option Heap):Prop:=Zwt o fun H=>Zub P E ops Q rest (AS.put ⟨τ,H⟩ d (.tuple []))
def Zr4 (P:Program) (E:Ent) (ops:Array Oper) (Q:AS→Prop) (rest:List Oper) (e:Nat) (τ : Nat→V) (H:Heap) (o:Option (List V)):Prop :=
 Zwt o fun cs=>∀ g,Zub P E ops Q rest ⟨upd τ e (.ptr (E.q+e) g 0),upd H (E.q+e) (.cells .new g 0 cs)⟩
def contS (P:Program) (E:Ent) (ops:Array Oper) (Q:AS→Prop) (rest:List Oper) (e:Nat) (τ : Nat→V) (H:Heap) (o:Option (Nat × Nat × List V)):Prop :=
 Zwt o fun c=>∀ g,Zub P E ops Q rest ⟨upd τ e (.msl (E.q+e) g 0 c.2.1 c.1),upd H (E.q+e) (.cells .new g 0 c.2.2)⟩
@[go_sem] theorem upd_apply {α : Type} (f:Nat → α) (k:Nat) (x : α) (n:Nat):upd f k x n=if n=k then x else f n:=rfl
@[go_sem] theorem ev_tmp (τ : Nat→V) (H:Heap) (t:Nat):AS.ev E ⟨τ,H⟩ (.tmp t) = τ t:=rfl
@[go_sem] theorem ev_int (τ : Nat→V) (H:Heap) (k:IntKind) (n:Int):AS.ev E ⟨τ,H⟩ (.const (.int k n)) = .int k n:=rfl
@[go_sem] theorem ev_bool (τ : Nat→V) (H:Heap) (b:Bool):AS.ev E ⟨τ,H⟩ (.const (.bool b)) = .bool b:=rfl
@[go_sem] theorem ev_str (τ : Nat→V) (H:Heap) (s:ByteArray):AS.ev E ⟨τ,H⟩ (.const (.string s)) = .str s.data.toList:=rfl
@[go_sem] theorem ev_nils (τ : Nat→V) (H:Heap):AS.ev E ⟨τ,H⟩ (.const (.slice none 0 0)) = .nils:=rfl
@[go_sem] theorem ev_nilp (τ : Nat→V) (H:Heap):AS.ev E ⟨τ,H⟩ (.const (.pointer none)) = .nilp:=rfl
@[go_sem] theorem ev_func (τ : Nat→V) (H:Heap) (f:FuncId):AS.ev E ⟨τ,H⟩ (.func f) = .func (.func f) [] []:=rfl
@[go_sem] theorem ev_global (τ : Nat→V) (H:Heap) (g:Nat):AS.ev E ⟨τ,H⟩ (.global g)=E.G g:=rfl
@[go_sem] theorem put_some (τ : Nat→V) (H:Heap) (d:Nat) (v:V):AS.put ⟨τ,H⟩ (some d) v=⟨upd τ d v,H⟩:=rfl
@[go_sem] theorem put_none (τ : Nat→V) (H:Heap) (v:V):AS.put ⟨τ,H⟩ none v=⟨τ,H⟩:=rfl
@[go_sem] theorem argsE_cons (k:Nat) (v:V) (r:List V):Zoi k (v::r)=upd (Zoi (k+1) r) k v:=rfl
attribute [go_sem] List.map_cons List.map_nil List.length_cons List.length_nil List.getElem?_cons_zero List.getElem?_cons_succ List.drop_succ_cons List.drop_zero List.take_succ_cons List.take_zero
 List.set_cons_zero List.set_cons_succ List.append_nil List.nil_append List.cons_append Option.map_some Option.map_none Nat.zero_add Nat.add_zero Int.toNat_natCast and_true true_and Bool.not_true Bool.not_false
 and_self Int.natCast_nonneg Bool.false_eq_true Bool.true_eq_false eq_self if_true if_false ne_eq not_true_eq_false not_false_eq_true false_implies true_implies Option.bind_some forall_const
section
variable {ops:Array Oper} {Q:AS→Prop} {rest:List Oper} {τ : Nat→V} {H:Heap} {d:Option Nat} {ty:TypeId} {pos:String} {af:Array Edge}
@[go_sem] theorem Zsr (s:AS):Zub P E ops Q [] s=Q s:=rfl
def Zxi (b:Option Bool) (K0 K1:Prop):Prop:=match b with | some true=>K1 | some false=>K0 | none=>False
@[congr] theorem Zs8 {b b':Option Bool} {K0 K1:Prop} (h:b=b'):Zxi b K0 K1=Zxi b' K0 K1:=by rw [h]
@[go_sem] theorem Zef (K0 K1:Prop):Zxi (some true) K0 K1=K1:=rfl
@[go_sem] theorem Zr8 (K0 K1:Prop):Zxi (some false) K0 K1=K0:=rfl
def Zlo (v:V) (want:Bool):Option Bool :=
 match v with
 | .bool b=>some (b==want)
 | .tuple []=>some false
 | _=>none
@[go_sem] theorem guardV_true (b:Bool):Zlo (.bool b) true=some b:=by cases b<;>rfl
@[go_sem] theorem Zq8 (b:Bool):Zlo (.bool b) false=some (!b):=by cases b<;>rfl
@[go_sem] theorem Zp8 (want:Bool):Zlo (.tuple []) want=some false:=rfl
def Zzj (l:List Oper) (j:Nat):Option Nat:=(l[j]?).bind (·.dst)
@[go_sem] theorem slotAt_zero (o:Oper) (l:List Oper):Zzj (o::l) 0=o.dst:=rfl
@[go_sem] theorem slotAt_succ (o:Oper) (l:List Oper) (j:Nat):Zzj (o::l) (j+1)=Zzj l j:=rfl
def Zej (v:Option V) (want:Bool):Option Bool:=match v with | some v=>Zlo v want | none=>some false
@[go_sem] theorem Zt8 (v:V) (want:Bool):Zej (some v) want=Zlo v want:=rfl
theorem Z8j (s:AS) (o:Oper):Zub P E ops Q (o::rest) s=Zxi (Zga ops s.τ o) (Zub P E ops Q rest (s.put o.dst (.tuple []))) (Z1a P E s o fun v H'=>Zub P E ops Q rest (AS.put { s with H:=H' } o.dst v)):=by
 simp only [Zub,Zxi]
 cases Zga ops s.τ o with
 | none=>rfl
 | some b=>cases b<;>rfl
@[go_sem] theorem opsA_guard (l:List Oper) (op:Op) (j:Nat) (want:Bool) :
  Zub P E ⟨l⟩ Q (⟨d,op,ty,pos,af,some (j,want)⟩::rest) ⟨τ,H⟩ =
   Zxi (Zej ((Zzj l j).map τ) want) (Zub P E ⟨l⟩ Q rest (AS.put ⟨τ,H⟩ d (.tuple []))) (Zub P E ⟨l⟩ Q (⟨d,op,ty,pos,af,none⟩::rest) ⟨τ,H⟩):=by
 rw [Z8j,Z8j];have e1:Zga ⟨l⟩ τ ⟨d,op,ty,pos,af,none⟩=some true:=rfl
 have e2:Zga ⟨l⟩ τ ⟨d,op,ty,pos,af,some (j,want)⟩=Zej ((Zzj l j).map τ) want:=by
  unfold Zga Zzj;simp only [List.getElem?_toArray]
  cases (l[j]?).bind (·.dst) with
  | none=>rfl
  | some e =>
   simp only [Option.map_some,Zej,Zlo];generalize τ e=v
   cases v<;>rfl
 rw [e1,e2];simp only [Zef];rfl
variable (ops)
theorem Zac (op:Op) (hs:∀ K,Z1a P E ⟨τ,H⟩ ⟨d,op,ty,pos,af,none⟩ K=(match opV P (AS.ev E ⟨τ,H⟩) ⟨d,op,ty,pos,af,none⟩ with | some v=>K v H | none=>False)) :
  Zub P E ops Q (⟨d,op,ty,pos,af,none⟩::rest) ⟨τ,H⟩=Zbh P E ops Q rest d τ H (opV P (AS.ev E ⟨τ,H⟩) ⟨d,op,ty,pos,af,none⟩):=by
 rw [Z8j];have e1:Zga ops (⟨τ,H⟩:AS).τ ⟨d,op,ty,pos,af,none⟩=some true:=rfl;rw [e1,Zef,hs];unfold Zbh Zwt
 cases opV P (AS.ev E ⟨τ,H⟩) ⟨d,op,ty,pos,af,none⟩<;>rfl
@[go_sem] theorem opsA_move (x:Operand):Zub P E ops Q (⟨d,.move x,ty,pos,af,none⟩::rest) ⟨τ,H⟩=Zub P E ops Q rest (AS.put ⟨τ,H⟩ d (AS.ev E ⟨τ,H⟩ x)):=Zac ops _ fun _=>rfl
@[go_sem] theorem opsA_assign (x:Operand):Zub P E ops Q (⟨d,.assign x,ty,pos,af,none⟩::rest) ⟨τ,H⟩=Zub P E ops Q rest (AS.put ⟨τ,H⟩ d (AS.ev E ⟨τ,H⟩ x)):=Zac ops _ fun _=>rfl
def Zt6 (c a b:V):Option V:=match c with | .bool true=>some a | .bool false=>some b | _=>none
@[go_sem] theorem pickV_true (a b:V):Zt6 (.bool true) a b=some a:=rfl
@[go_sem] theorem pickV_false (a b:V):Zt6 (.bool false) a b=some b:=rfl
@[go_sem] theorem pickV_bools (c a b:Bool):Zt6 (.bool c) (.bool a) (.bool b)=some (.bool (if c then a else b)):=by cases c<;>rfl
@[go_sem] theorem opsA_pick (c a b:Operand):Zub P E ops Q (⟨d,.pick c a b,ty,pos,af,none⟩::rest) ⟨τ,H⟩ =
  Zbh P E ops Q rest d τ H (Zt6 (AS.ev E ⟨τ,H⟩ c) (AS.ev E ⟨τ,H⟩ a) (AS.ev E ⟨τ,H⟩ b)):=Zac ops _ fun _=>rfl
@[go_sem] theorem opsA_binOp (op:BinOp) (t:TypeId) (x y:Operand) (u:TypeId):Zub P E ops Q (⟨d,.binOp op t x y u,ty,pos,af,none⟩::rest) ⟨τ,H⟩ =
  Zbh P E ops Q rest d τ H (Zqj P op t (AS.ev E ⟨τ,H⟩ x) (AS.ev E ⟨τ,H⟩ y)):=Zac ops _ fun _=>rfl
@[go_sem] theorem opsA_unOp (op:UnOp) (t:TypeId) (x:Operand):Zub P E ops Q (⟨d,.unOp op t x,ty,pos,af,none⟩::rest) ⟨τ,H⟩ =
  Zbh P E ops Q rest d τ H (unV op (AS.ev E ⟨τ,H⟩ x)):=Zac ops _ fun _=>rfl
@[go_sem] theorem Zi8 (t u:TypeId) (x:Operand):Zub P E ops Q (⟨d,.convert t u x,ty,pos,af,none⟩::rest) ⟨τ,H⟩ =
  Zbh P E ops Q rest d τ H (Zpu P t u (AS.ev E ⟨τ,H⟩ x)):=Zac ops _ fun _=>rfl
def Z0y (t:V) (i:Nat):Option V:=match t with | .tuple vs=>vs[i]? | _=>none
@[go_sem] theorem Zn5 (vs:List V) (i:Nat):Z0y (.tuple vs) i=vs[i]? := rfl
@[go_sem] theorem Zh8 (x:Operand) (i:Nat):Zub P E ops Q (⟨d,.extract x i,ty,pos,af,none⟩::rest) ⟨τ,H⟩ =
  Zbh P E ops Q rest d τ H (Z0y (AS.ev E ⟨τ,H⟩ x) i):=Zac ops _ fun _=>rfl
@[go_sem] theorem Zk5 (t:TypeId) (x:Operand) (f:Nat):Zub P E ops Q (⟨d,.fieldAddr t x f,ty,pos,af,none⟩::rest) ⟨τ,H⟩ =
  Zbh P E ops Q rest d τ H (Z5d P t (AS.ev E ⟨τ,H⟩ x) f):=Zac ops _ fun _=>rfl
@[go_sem] theorem Zj5 (t:TypeId) (x i:Operand):Zub P E ops Q (⟨d,.indexAddr t x i,ty,pos,af,none⟩::rest) ⟨τ,H⟩ =
  Zbh P E ops Q rest d τ H (Z2b P t (AS.ev E ⟨τ,H⟩ x) (AS.ev E ⟨τ,H⟩ i)):=Zac ops _ fun _=>rfl
@[go_sem] theorem opsA_index (t:TypeId) (x i:Operand):Zub P E ops Q (⟨d,.index t x i,ty,pos,af,none⟩::rest) ⟨τ,H⟩ =
  Zbh P E ops Q rest d τ H (Zqh P t (AS.ev E ⟨τ,H⟩ x) (AS.ev E ⟨τ,H⟩ i)):=Zac ops _ fun _=>rfl
@[go_sem] theorem opsA_slice (t:TypeId) (x:Operand) (lo hi mx:Option Operand):Zub P E ops Q (⟨d,.slice t x lo hi mx,ty,pos,af,none⟩::rest) ⟨τ,H⟩ =
  Zbh P E ops Q rest d τ H (Z3e P t (AS.ev E ⟨τ,H⟩ x) (lo.map (AS.ev E ⟨τ,H⟩)) (hi.map (AS.ev E ⟨τ,H⟩)) (mx.map (AS.ev E ⟨τ,H⟩))):=Zac ops _ fun _=>rfl
@[go_sem] theorem opsA_build (t:TypeId) (l:List (Nat × Operand)):Zub P E ops Q (⟨d,.build t ⟨l⟩,ty,pos,af,none⟩::rest) ⟨τ,H⟩ =
  Zbh P E ops Q rest d τ H (Z3f P t (l.map fun p=>(p.1,AS.ev E ⟨τ,H⟩ p.2))):=Zac ops _ fun _=>rfl
@[go_sem] theorem Zx6 (fn:Fn) (l m:List Operand):Zub P E ops Q (⟨d,.makeFunc fn ⟨l⟩ ⟨m⟩,ty,pos,af,none⟩::rest) ⟨τ,H⟩ =
  Zub P E ops Q rest (AS.put ⟨τ,H⟩ d (.func fn (l.map (AS.ev E ⟨τ,H⟩)) (m.map (AS.ev E ⟨τ,H⟩)))):=Zac ops _ fun _=>rfl
@[go_sem] theorem maxL_two (k k':IntKind) (x y:Int):Zm5 [.int k x,.int k' y]=some (.int k (if y > x then y else x)):=rfl
@[go_sem] theorem maxL_three (k k' k'':IntKind) (x y z:Int):Zm5 [.int k x,.int k' y,.int k'' z]=some (.int k (if z > (if y > x then y else x) then z else (if y > x then y else x))):=rfl
@[go_sem] theorem opsA_max (l:List Operand) (ats:List TypeId):Zub P E ops Q (⟨d,.call ⟨.builtin .max,⟨l⟩,⟨ats⟩⟩,ty,pos,af,none⟩::rest) ⟨τ,H⟩ =
  Zbh P E ops Q rest d τ H (Zm5 (l.map (AS.ev E ⟨τ,H⟩))):=Zac ops _ fun _=>rfl
@[go_sem] theorem opsA_len (x:Operand) (t:TypeId):Zub P E ops Q (⟨d,.call ⟨.builtin .len,⟨[x]⟩,⟨[t]⟩⟩,ty,pos,af,none⟩::rest) ⟨τ,H⟩ =
  Zbh P E ops Q rest d τ H (Zm1 P t (AS.ev E ⟨τ,H⟩ x)):=Zac ops _ fun _=>rfl
@[go_sem] theorem Zw6 (x:Operand):Zub P E ops Q (⟨d,.nilCheck x,ty,pos,af,none⟩::rest) ⟨τ,H⟩ =
  Zbh P E ops Q rest d τ H (opV P (AS.ev E ⟨τ,H⟩) ⟨d,.nilCheck x,ty,pos,af,none⟩):=Zac ops _ fun _=>rfl
theorem Zlc (op:Op):Zub P E ops Q (⟨d,op,ty,pos,af,none⟩::rest) ⟨τ,H⟩=Z1a P E ⟨τ,H⟩ ⟨d,op,ty,pos,af,none⟩ fun v H'=>Zub P E ops Q rest (AS.put ⟨τ,H'⟩ d v):=by
 rw [Z8j];rfl
@[go_sem] theorem opsA_load (t:TypeId) (x:Operand):Zub P E ops Q (⟨d,.load t x,ty,pos,af,none⟩::rest) ⟨τ,H⟩ =
  Zbh P E ops Q rest d τ H (Z8b P H t (AS.ev E ⟨τ,H⟩ x)):=by
 rw [Zlc];simp only [Z1a,Zbh,Zwt]
 cases Z8b P H t (AS.ev E ⟨τ,H⟩ x)<;>rfl
@[go_sem] theorem opsA_store (t:TypeId) (p x:Operand):Zub P E ops Q (⟨d,.store t p x,ty,pos,af,none⟩::rest) ⟨τ,H⟩ =
  contH P E ops Q rest d τ (Z6l P H t (AS.ev E ⟨τ,H⟩ p) (AS.ev E ⟨τ,H⟩ x)):=by
 rw [Zlc];simp only [Z1a,contH,Zwt]
 cases Z6l P H t (AS.ev E ⟨τ,H⟩ p) (AS.ev E ⟨τ,H⟩ x)<;>rfl
def Z4c (P:Program) (t:TypeId):Option (List V):=(Zrf P t).bind fun z=>if z.solid then some z.cells else none
@[go_sem] theorem opsA_alloc (t:TypeId) (e:Nat):Zub P E ops Q (⟨some e,.alloc t,ty,pos,af,none⟩::rest) ⟨τ,H⟩ =
  Zr4 P E ops Q rest e τ H (Z4c P t):=by
 rw [Zlc];simp only [Z1a,Z4c,Zr4]
 cases Zrf P t with
 | none=>rfl
 | some z =>
  simp only [Option.bind_some]
  cases hz:z.solid with
  | false=>simp [Zwt]
  | true=>simp [Zwt,AS.put]
def Z71 (v:V):Option (List V):=if v.solid then some v.cells else none
@[go_sem] theorem opsA_box (t:TypeId) (x:Operand) (e:Nat):Zub P E ops Q (⟨some e,.box t x,ty,pos,af,none⟩::rest) ⟨τ,H⟩ =
  Zr4 P E ops Q rest e τ H (Z71 (AS.ev E ⟨τ,H⟩ x)):=by
 rw [Zlc];simp only [Z1a,Z71,Zr4]
 cases hz:(AS.ev E ⟨τ,H⟩ x).solid with
 | false=>simp [Zwt]
 | true=>simp [Zwt,AS.put]
def Z0o (P:Program) (t:TypeId) (len:Nat) (parts:List (Nat × V)):Option (Nat × Nat × List V) :=
 match P.underlying t with
 | some (.slice e)=>match Zqb P e,Z4c P e with
  | some E,some z=>if z.length=E∧len * E≤16777216 then (Zwd (fun i=>some (i * E,E)) (Zns len z) parts).map fun cs=>(E,len,cs) else none
  | _,_=>none
 | _=>none
@[go_sem] theorem Z42 (t:TypeId) (len e:Nat) (l:List (Nat × Operand)):Zub P E ops Q (⟨some e,.buildSlice t len ⟨l⟩,ty,pos,af,none⟩::rest) ⟨τ,H⟩ =
  contS P E ops Q rest e τ H (Z0o P t len (l.map fun p=>(p.1,AS.ev E ⟨τ,H⟩ p.2))):=by
 rw [Zlc];simp only [Z1a,Zhd,Z0o,Z4c,contS]
 cases P.underlying t with
 | none=>rfl
 | some k =>
  cases k<;>try rfl
  rename_i e';simp only
  cases Zqb P e' with
  | none=>rfl
  | some n =>
   cases Zrf P e' with
   | none=>rfl
   | some z =>
    simp only [Option.bind_some]
    cases hz:z.solid with
    | false=>simp [Zwt]
    | true =>
     simp only [if_true,true_and]
     by_cases hc:z.cells.length=n∧len * n≤16777216
     ·rw [if_pos hc]
      simp only [hc.1,hc.2,true_and]
      cases Zwd (fun i=>some (i * n,n)) (Zns len z.cells) (l.map fun p=>(p.1,AS.ev E ⟨τ,H⟩ p.2)) with
      | none=>simp [Zwt]
      | some cs=>simp [Zwt,AS.put]
     ·rw [if_neg hc]
      simp only [Zwt];rw [← and_assoc];simp [hc]
def msCells (P:Program) (t:TypeId) (len cap:V):Option (Nat × Nat × List V) :=
 match P.underlying t,len,cap with
 | some (.slice e),.int _ n,.int _ m=>match Zqb P e,Zzq P e,Z4c P e with
  | some E,some bytes,some z=>if z.length=E∧0≤n∧n≤m∧m≤4611686018427387904∧bytes * m≤281474976710656 then some (E,n.toNat,Zns m.toNat z) else none
  | _,_,_=>none
 | _,_,_=>none
def callC (P:Program) (E:Ent) (ops:Array Oper) (Q:AS→Prop) (rest:List Oper) (d:Option Nat) (τ : Nat→V) (H:Heap) (f:V) (args:List V):Prop :=
 match f with
 | .func (.func fid) first cap=>CallP P E.G E.kp fid (first++args++cap) H fun v H'=>Zub P E ops Q rest (AS.put ⟨τ,H'⟩ d v)
 | _=>False
def CallC (P:Program) (E:Ent) (ops:Array Oper) (Q:AS→Prop) (rest:List Oper) (d:Option Nat) (τ : Nat→V) (H:Heap) (fid:FuncId) (args:List V):Prop :=
 match E.kp with
 | none=>CallA P E.G fid args H fun v H'=>Zub P E ops Q rest (AS.put ⟨τ,H'⟩ d v)
 | some k=>CallP P E.G (some k) fid args H fun v H'=>Zub P E ops Q rest (AS.put ⟨τ,H'⟩ d v)
@[go_sem] theorem callC_func (fid:FuncId) (first cap args:List V):callC P E ops Q rest d τ H (.func (.func fid) first cap) args=CallC P E ops Q rest d τ H fid (first++args++cap):=by
 simp only [callC,CallC]
 cases E.kp with
 | none=>exact Zms
 | some k=>rfl
@[go_sem] theorem opsA_call (f:Operand) (l:List Operand) (ats:Array TypeId):Zub P E ops Q (⟨d,.call ⟨.value f,⟨l⟩,ats⟩,ty,pos,af,none⟩::rest) ⟨τ,H⟩ =
  callC P E ops Q rest d τ H (AS.ev E ⟨τ,H⟩ f) (l.map (AS.ev E ⟨τ,H⟩)):=by
 rw [Zlc];rfl
def appC (P:Program) (E:Ent) (ops:Array Oper) (Q:AS→Prop) (rest:List Oper) (e:Nat) (τ : Nat→V) (H:Heap) (ats:List TypeId) (a b:V):Prop :=
 Zwl P H (E.q+e) ⟨ats⟩ a b fun v H'=>Zub P E ops Q rest (AS.put ⟨τ,H'⟩ (some e) v)
@[go_sem] theorem opsA_append (x y:Operand) (ats:List TypeId) (e:Nat):Zub P E ops Q (⟨some e,.call ⟨.builtin .append,⟨[x,y]⟩,⟨ats⟩⟩,ty,pos,af,none⟩::rest) ⟨τ,H⟩ =
  appC P E ops Q rest e τ H ats (AS.ev E ⟨τ,H⟩ x) (AS.ev E ⟨τ,H⟩ y):=by
 rw [Zlc];rfl
def appOf (P:Program) (ats:List TypeId):Option (Nat × Nat) :=
 match ats with
 | [t0,t1]=>match P.underlying t0,P.underlying t1 with
  | some (.slice _),some (.int _)=>none
  | some (.slice e),some _=>match Zqb P e,Zzq P e,Z4c P e with
   | some E,some bytes,some z=>if z.length=E then some (E,bytes) else none
   | _,_,_=>none
  | _,_=>none
 | _=>none
def Z18 (P:Program) (E:Ent) (ops:Array Oper) (Q:AS→Prop) (rest:List Oper) (e:Nat) (τ : Nat→V) (H:Heap) (m bytes:Nat) (a:V) (src:Option (Nat × List V)) (ob:AObj):Prop :=
 match src with
 | none=>False
 | some (n,xc) =>
  match a with
  | .nils=>Zvf bytes n∧(n=0→Zub P E ops Q rest ⟨upd τ e .nils,H⟩)∧(n≠0→∀ g,Zub P E ops Q rest ⟨upd τ e (.msl (E.q+e) g 0 n m),upd H (E.q+e) (.cells .new g 0 xc)⟩)
  | .slice c clip m' l=>m'=m∧Zvf bytes (l.length+n)∧(n=0→Zub P E ops Q rest ⟨upd τ e (.slice c clip m l),H⟩) ∧
    (n≠0→clip=true∧∀ g,Zub P E ops Q rest ⟨upd τ e (.msl (E.q+e) g 0 (l.length+n) m),upd H (E.q+e) (.cells .new g 0 (flat l++xc))⟩)
  | .msl o g off len m'=>m'=m∧Zvf bytes (len+n) ∧
   match ob with
   | .cells c g' fz cs=>g=g'∧off+len * m≤cs.length∧fz≤off+len * m ∧
     ∀ g2,Zub P E ops Q rest ⟨upd τ e (.msl o g2 0 (len+n) m),upd H o (.cells c.moved g2 (fz-off) ((cs.drop off).take (len * m)++xc))⟩
   | _=>False
  | _=>False
def obS (H:Heap) (a:V):AObj:=match a with | .msl o _ _ _ _=>H o | _ => .dead
@[go_sem] theorem Z52 (H:Heap) (o g off len m:Nat):obS H (.msl o g off len m)=H o:=rfl
@[go_sem] theorem obS_nils (H:Heap):obS H .nils = .dead:=rfl
@[go_sem] theorem obS_slice (H:Heap) (c:Col) (b:Bool) (m:Nat) (l:List V):obS H (.slice c b m l) = .dead:=rfl
theorem appC_E {ats:List TypeId} {m bytes:Nat} (h:appOf P ats=some (m,bytes)) (e:Nat) (a b:V):appC P E ops Q rest e τ H ats a b=Z18 P E ops Q rest e τ H m bytes a (Z9c H m b) (obS H a):=by
 unfold appOf at h
 split at h
 case h_2=>simp at h
 rename_i t0 t1
 split at h
 ·simp at h
 ·rename_i e' bt hne h0 h1
  split at h
  ·rename_i N B z hs hb hz
   split at h
   ·rename_i hzl
    simp at h;obtain ⟨rfl,rfl⟩:=h
    have hzv:∃ zv,Zrf P e'=some zv∧zv.solid=true∧zv.cells=z:=by
     unfold Z4c at hz
     cases hzz:Zrf P e' with
     | none=>rw [hzz] at hz;simp at hz
     | some zv =>
      rw [hzz] at hz;simp only [Option.bind_some] at hz
      split at hz
      ·rename_i h1;simp at hz;exact ⟨zv,rfl,h1,hz⟩
      ·simp at hz
    obtain ⟨zv,h2,h3,h4⟩:=hzv;unfold appC Zwl;simp only [h0,h1]
    have fin:Znj H (E.q+e) N B a b (fun v H'=>Zub P E ops Q rest (AS.put ⟨τ,H'⟩ (some e) v))=Z18 P E ops Q rest e τ H N B a (Z9c H N b) (obS H a):=by
     unfold Znj Z18
     cases Z9c H N b with
     | none=>rfl
     | some p =>
      obtain ⟨n,xc⟩:=p
      cases a<;>try rfl
      all_goals (rename_i o g off len m';simp only [obS];cases H o<;>rfl)
    rw [← fin]
    cases bt<;>first | exact absurd rfl (hne _) | simp only [hs,hb,h2,h3,h4,hzl,true_and]
   ·simp at h
  ·simp at h
 ·simp at h
def srcK (m:Nat) (ob:AObj) (x:V):Option (Nat × List V) :=
 match x with
 | .nils=>some (0,[])
 | .slice _ _ E' l=>if E'=m then some (l.length,flat l) else none
 | .msl _ g off len E'=>match ob with
  | .cells _ g' _ cs=>if E'=m∧g=g'∧off+len * m≤cs.length then some (len,(cs.drop off).take (len * m)) else none
  | _=>none
 | .str s=>if m=1 then some (s.length,s.map fun b => .int .u8 b.toNat) else none
 | _=>none
@[go_sem] theorem srcCells_K (H:Heap) (m:Nat) (x:V):Z9c H m x=srcK m (obS H x) x:=by
 unfold Z9c srcK
 cases x<;>rfl
@[go_sem] theorem srcK_slice (m:Nat) (ob:AObj) (c:Col) (b:Bool) (E':Nat) (l:List V):srcK m ob (.slice c b E' l)=if E'=m then some (l.length,flat l) else none:=rfl
@[go_sem] theorem srcK_msl (m:Nat) (o g off len E':Nat) (c:Col) (g' fz:Nat) (cs:List V):srcK m (.cells c g' fz cs) (.msl o g off len E') =
  if E'=m∧g=g'∧off+len * m≤cs.length then some (len,(cs.drop off).take (len * m)) else none:=rfl
theorem Z0u (e m bytes n:Nat) (xc:List V) (ob:AObj):Z18 P E ops Q rest e τ H m bytes .nils (some (n,xc)) ob =
  (Zvf bytes n∧(n=0→Zub P E ops Q rest ⟨upd τ e .nils,H⟩)∧(n≠0→∀ g,Zub P E ops Q rest ⟨upd τ e (.msl (E.q+e) g 0 n m),upd H (E.q+e) (.cells .new g 0 xc)⟩)):=rfl
@[go_sem] theorem Zaz (e m bytes n:Nat) (xc:List V) (o g off len m':Nat) (c:Col) (g' fz:Nat) (cs:List V):Z18 P E ops Q rest e τ H m bytes (.msl o g off len m') (some (n,xc)) (.cells c g' fz cs) =
  (m'=m∧Zvf bytes (len+n)∧g=g'∧off+len * m≤cs.length∧fz≤off+len * m ∧
     ∀ g2,Zub P E ops Q rest ⟨upd τ e (.msl o g2 0 (len+n) m),upd H o (.cells c.moved g2 (fz-off) ((cs.drop off).take (len * m)++xc))⟩):=rfl
@[go_sem] theorem contV_some (v:V):Zbh P E ops Q rest d τ H (some v)=Zub P E ops Q rest (AS.put ⟨τ,H⟩ d v):=rfl
@[go_sem] theorem contH_some (H:Heap):contH P E ops Q rest d τ (some H)=Zub P E ops Q rest (AS.put ⟨τ,H⟩ d (.tuple [])):=rfl
@[go_sem] theorem contP_some (e:Nat) (cs:List V):Zr4 P E ops Q rest e τ H (some cs)=∀ g,Zub P E ops Q rest ⟨upd τ e (.ptr (E.q+e) g 0),upd H (E.q+e) (.cells .new g 0 cs)⟩:=rfl
@[go_sem] theorem contS_some (e m len:Nat) (cs:List V):contS P E ops Q rest e τ H (some (m,len,cs))=∀ g,Zub P E ops Q rest ⟨upd τ e (.msl (E.q+e) g 0 len m),upd H (E.q+e) (.cells .new g 0 cs)⟩:=rfl
end
section
variable (P) (t:TypeId) (k:IntKind) (a b:Int)
theorem Zqd (op:BinOp) (h1:op ≠ .shl) (h2:op ≠ .shr):Zqj P op t (.int k a) (.int k b)=intV op k a b:=by
 simp only [Zqj];rw [if_neg (by simp [h1,h2])];simp
@[go_sem] theorem binV_add:Zqj P .add t (.int k a) (.int k b)=some (.int k (k.wrap (a+b))):=Zqd P t k a b .add (by simp) (by simp)
@[go_sem] theorem binV_sub:Zqj P .sub t (.int k a) (.int k b)=some (.int k (k.wrap (a-b))):=Zqd P t k a b .sub (by simp) (by simp)
@[go_sem] theorem binV_mul:Zqj P .mul t (.int k a) (.int k b)=some (.int k (k.wrap (a * b))):=Zqd P t k a b .mul (by simp) (by simp)
@[go_sem] theorem binV_quo:Zqj P .quo t (.int k a) (.int k b)=if b=0 then none else some (.int k (k.wrap (a.tdiv b))):=Zqd P t k a b .quo (by simp) (by simp)
@[go_sem] theorem binV_eql:Zqj P .eql t (.int k a) (.int k b)=some (.bool (a==b)):=Zqd P t k a b .eql (by simp) (by simp)
@[go_sem] theorem binV_neq:Zqj P .neq t (.int k a) (.int k b)=some (.bool (a != b)):=Zqd P t k a b .neq (by simp) (by simp)
@[go_sem] theorem binV_lss:Zqj P .lss t (.int k a) (.int k b)=some (.bool (decide (a<b))):=Zqd P t k a b .lss (by simp) (by simp)
@[go_sem] theorem binV_leq:Zqj P .leq t (.int k a) (.int k b)=some (.bool (decide (a≤b))):=Zqd P t k a b .leq (by simp) (by simp)
@[go_sem] theorem binV_gtr:Zqj P .gtr t (.int k a) (.int k b)=some (.bool (decide (a > b))):=Zqd P t k a b .gtr (by simp) (by simp)
@[go_sem] theorem binV_geq:Zqj P .geq t (.int k a) (.int k b)=some (.bool (decide (a≥b))):=Zqd P t k a b .geq (by simp) (by simp)
end
@[go_sem] theorem binV_str (op:BinOp) (t:TypeId) (a b:List UInt8):Zqj P op t (.str a) (.str b)=strV op a b:=rfl
@[go_sem] theorem strV_eql (a b:List UInt8):strV .eql a b=some (.bool (a==b)):=rfl
@[go_sem] theorem strV_neq (a b:List UInt8):strV .neq a b=some (.bool (!(a==b))):=rfl
@[go_sem] theorem unV_not (b:Bool):unV .not (.bool b)=some (.bool !b):=rfl
@[go_sem] theorem unV_neg (k:IntKind) (n:Int):unV .neg (.int k n)=some (.int k (k.wrap (0-n))):=rfl
def fldOf (P:Program) (t:TypeId) (f:Nat):Option (Nat × Bool × Nat) :=
 match P.underlying t with
 | some (.struct fs)=>match fs[f]? with
  | some fd=>match Zzf P fd.type,Zqb P fd.type with
   | some b,some (n+1)=>if b=true∨n=0 then some (fd.offset,b,n+1) else none
   | _,_=>none
  | none=>none
 | _=>none
def Zgl (b:Bool) (n:Nat) (l:List V) (off:Nat):Option V :=
 if b then (if off+n≤l.length then some (.agg ((l.drop off).take n)) else none) else l[off]?
@[go_sem] theorem partC_true (n:Nat) (l:List V) (off:Nat):Zgl true n l off=if off+n≤l.length then some (.agg ((l.drop off).take n)) else none:=rfl
@[go_sem] theorem partC_false (n:Nat) (l:List V) (off:Nat):Zgl false n l off=l[off]? := rfl
theorem Ztg {t:TypeId} {b:Bool} {n:Nat} (h1:Zzf P t=some b) (h2:Zqb P t=some n) (h3:b=true∨n=1) (l:List V) (off:Nat):Z7j P t l off=Zgl b n l off:=by
 unfold Z7j Zgl;rw [h1,h2]
 cases b with
 | true=>rfl
 | false =>
  rcases h3 with h3 | h3
  ·cases h3
  ·subst h3;rfl
def fldK (x:Option (Nat × Bool × Nat)) (a:V):Option V :=
 match x,a with
 | some (k,_,_),.ptr o g off=>some (.ptr o g (off+k))
 | some (k,b,n),.view c (.agg l)=>(Zgl b n l k).map (.view c)
 | _,_=>none
@[go_sem] theorem fldK_ptr (k n:Nat) (b:Bool) (o g off:Nat):fldK (some (k,b,n)) (.ptr o g off)=some (.ptr o g (off+k)):=rfl
@[go_sem] theorem fldK_view (k n:Nat) (b:Bool) (c:Col) (l:List V):fldK (some (k,b,n)) (.view c (.agg l))=(Zgl b n l k).map (.view c):=rfl
theorem Zhu {t:TypeId} {f:Nat} {x:Nat × Bool × Nat} (h:fldOf P t f=some x) (a:V):Z5d P t a f=fldK (some x) a:=by
 unfold fldOf at h;unfold Z5d
 split at h
 ·rename_i fs hu
  rw [hu];simp only
  split at h
  ·rename_i fd hf
   rw [hf];simp only
   split at h
   ·rename_i b n h1 h2
    split at h
    ·rename_i hc
     simp at h;subst h;rw [h2];simp only;unfold fldK
     cases a<;>try rfl
     rename_i c v
     cases v<;>try rfl
     rename_i l;simp only;rw [Ztg h1 h2 (hc.imp id (by omega))]
    ·simp at h
   ·simp at h
  ·simp at h
 ·simp at h
def Z2f (P:Program) (t:TypeId):Option Nat:=match P.underlying t with | some (.slice e)=>Zqb P e | _=>none
def Ztw (P:Program) (t:TypeId):Bool:=match P.underlying t with | some .string=>true | _=>false
def Z0v (P:Program) (t:TypeId):Option (Bool × Nat) :=
 match Zzf P t,Zqb P t with
 | some true,some n=>some (true,n)
 | some false,some 1=>some (false,1)
 | _,_=>none
def Zo8 (e:Option Nat) (a i:V):Option V :=
 match e,a,i with
 | some m,.slice c _ E l,.int _ n=>if m=E∧0≤n then (l[n.toNat]?).map (.view c) else none
 | some m,.msl o g off len E,.int _ n=>if m=E∧0≤n∧n<len then some (.ptr o g (off+n.toNat * E)) else none
 | _,_,_=>none
theorem Z8t {t:TypeId} {m:Nat} (h:Z2f P t=some m) (a i:V):Z2b P t a i=Zo8 (some m) a i:=by
 unfold Z2f at h;unfold Z2b Zo8
 split at h
 ·rename_i e hu
  rw [hu]
  cases i<;>try (cases a<;>rfl)
  cases a<;>try rfl
  ·simp only [h,Option.some.injEq]
  ·simp only [h,Option.some.injEq]
 ·simp at h
@[go_sem] theorem idxK_slice (m:Nat) (c:Col) (clip:Bool) (E:Nat) (l:List V) (k:IntKind) (n:Int):Zo8 (some m) (.slice c clip E l) (.int k n)=if m=E∧0≤n then (l[n.toNat]?).map (.view c) else none:=rfl
@[go_sem] theorem idxK_msl (m o g off len E:Nat) (k:IntKind) (n:Int):Zo8 (some m) (.msl o g off len E) (.int k n)=if m=E∧0≤n∧n<len then some (.ptr o g (off+n.toNat * E)) else none:=rfl
def Zs0 (sl:Bool) (a:V):Option V :=
 match a with
 | .nils=>if sl then some (.int .i64 0) else none
 | .slice _ _ _ l=>if sl then some (.int .i64 l.length) else none
 | .msl _ _ _ len _=>if sl then some (.int .i64 len) else none
 | .str s=>if sl then none else some (.int .i64 s.length)
 | _=>none
theorem Zr0 {t:TypeId} {m:Nat} (h:Z2f P t=some m) (a:V):Zm1 P t a=Zs0 true a:=by
 unfold Z2f at h;unfold Zm1 Zs0
 split at h
 ·rename_i e hu
  rw [hu]
  cases a<;>rfl
 ·simp at h
theorem Z46 {t:TypeId} (h:Ztw P t=true) (a:V):Zm1 P t a=Zs0 false a:=by
 unfold Ztw at h;unfold Zm1 Zs0
 split at h
 ·rename_i hu
  rw [hu]
  cases a<;>rfl
 ·simp at h
@[go_sem] theorem lenK_nils:Zs0 true .nils=some (.int .i64 0):=rfl
@[go_sem] theorem lenK_slice (c:Col) (clip:Bool) (E:Nat) (l:List V):Zs0 true (.slice c clip E l)=some (.int .i64 l.length):=rfl
@[go_sem] theorem lenK_msl (o g off len E:Nat):Zs0 true (.msl o g off len E)=some (.int .i64 len):=rfl
@[go_sem] theorem lenK_str (s:List UInt8):Zs0 false (.str s)=some (.int .i64 s.length):=rfl
def Zom (x:Option (Bool × Nat)) (ob:AObj) (a:V):Option V :=
 match x,a with
 | some (b,n),.ptr _ g off=>match ob with
  | .cells _ g' _ cs=>if g=g' then Zgl b n cs off else none
  | _=>none
 | some (b,n),.view _ v=>match v,b with
  | .agg l,true=>if n=l.length then some (.agg l) else none
  | .agg _,false=>none
  | .top,_=>none
  | .tuple _,_=>none
  | _,true=>none
  | v,false=>some v
 | _,_=>none
def obOf (H:Heap) (a:V):AObj:=match a with | .ptr o _ _=>H o | _ => .dead
theorem readV_K {t:TypeId} {b:Bool} {n:Nat} (h:Z0v P t=some (b,n)) (H:Heap) (a:V):Z8b P H t a=Zom (some (b,n)) (obOf H a) a:=by
 unfold Z0v at h
 have hh:Zzf P t=some b∧Zqb P t=some n∧(b=true∨n=1):=by
  split at h<;>simp at h<;>obtain ⟨rfl,rfl⟩:=h<;>rename_i h1 h2
  ·exact ⟨h1,h2,.inl rfl⟩
  ·exact ⟨h1,h2,.inr rfl⟩
 obtain ⟨h1,h2,h3⟩:=hh;unfold Z8b
 cases a<;>try (simp [Zqc,Zom];done)
 ·rename_i c v
  simp only [Zqc,Zom,h1,h2]
  cases b<;>cases v<;>simp
 ·rename_i o g off
  simp only [Zom,obOf]
  cases H o with
  | dead=>rfl
  | mp=>rfl
  | cells c g' fz cs =>
   simp only;rw [Ztg h1 h2 h3]
@[go_sem] theorem obOf_ptr (H:Heap) (o g off:Nat):obOf H (.ptr o g off)=H o:=rfl
@[go_sem] theorem loadK_ptr (b:Bool) (n o g off:Nat) (c:Col) (g' fz:Nat) (cs:List V):Zom (some (b,n)) (.cells c g' fz cs) (.ptr o g off)=if g=g' then Zgl b n cs off else none:=rfl
@[go_sem] theorem loadK_agg (n:Nat) (ob:AObj) (c:Col) (l:List V):Zom (some (true,n)) ob (.view c (.agg l))=if n=l.length then some (.agg l) else none:=rfl
@[go_sem] theorem loadK_int (n:Nat) (ob:AObj) (c:Col) (k:IntKind) (i:Int):Zom (some (false,n)) ob (.view c (.int k i))=some (.int k i):=rfl
@[go_sem] theorem loadK_str (n:Nat) (ob:AObj) (c:Col) (s:List UInt8):Zom (some (false,n)) ob (.view c (.str s))=some (.str s):=rfl
@[go_sem] theorem loadK_func (n:Nat) (ob:AObj) (c:Col) (fn:Fn) (a b:List V):Zom (some (false,n)) ob (.view c (.func fn a b))=some (.func fn a b):=rfl
def Z51 (sz:Option Nat) (H:Heap) (ob:AObj) (a v:V):Option Heap :=
 match a,ob with
 | .ptr o g off,.cells c g' fz cs=>if g=g'∧v.solid=true∧sz=some v.cells.length∧fz≤off∧off+v.cells.length≤cs.length then some (upd H o (.cells c g fz (setAt cs off v.cells))) else none
 | _,_=>none
@[go_sem] theorem storeH_K (H:Heap) (t:TypeId) (a v:V):Z6l P H t a v=Z51 (Zqb P t) H (obOf H a) a v:=by
 unfold Z6l Z51
 cases a<;>try rfl
 rename_i o g off;simp only [obOf]
 cases H o<;>rfl
@[go_sem] theorem storeK_ptr (sz:Option Nat) (H:Heap) (o g off:Nat) (c:Col) (g' fz:Nat) (cs:List V) (v:V):Z51 sz H (.cells c g' fz cs) (.ptr o g off) v =
  if g=g'∧v.solid=true∧sz=some v.cells.length∧fz≤off∧off+v.cells.length≤cs.length then some (upd H o (.cells c g fz (setAt cs off v.cells))) else none:=rfl
@[go_sem] theorem setAt_nil (cs:List V) (off:Nat):setAt cs off []=cs:=rfl
@[go_sem] theorem setAt_cons (cs:List V) (off:Nat) (v:V) (r:List V):setAt cs off (v::r)=setAt (cs.set off v) (off+1) r:=rfl
section
@[go_sem] theorem Zv4 (l:List V):(V.agg l).cells=l:=rfl
@[go_sem] theorem cells_int (k:IntKind) (n:Int):(V.int k n).cells=[.int k n]:=rfl
@[go_sem] theorem cells_bool (b:Bool):(V.bool b).cells=[.bool b]:=rfl
@[go_sem] theorem cells_str (s:List UInt8):(V.str s).cells=[.str s]:=rfl
@[go_sem] theorem cells_msl (o g off len E:Nat):(V.msl o g off len E).cells=[.msl o g off len E]:=rfl
@[go_sem] theorem cells_func (fn:Fn) (a b:List V):(V.func fn a b).cells=[.func fn a b]:=rfl
@[go_sem] theorem solid_agg (l:List V):(V.agg l).solid=true:=rfl
@[go_sem] theorem solid_int (k:IntKind) (n:Int):(V.int k n).solid=true:=rfl
@[go_sem] theorem solid_bool (b:Bool):(V.bool b).solid=true:=rfl
@[go_sem] theorem solid_str (s:List UInt8):(V.str s).solid=true:=rfl
@[go_sem] theorem solid_msl (o g off len E:Nat):(V.msl o g off len E).solid=true:=rfl
@[go_sem] theorem solid_func (fn:Fn) (a b:List V):(V.func fn a b).solid=true:=rfl
@[go_sem] theorem solidC_K (v:V):Z71 v=if v.solid then some v.cells else none:=rfl
@[go_sem] theorem repV_zero (z:List V):Zns 0 z=[]:=rfl
@[go_sem] theorem repV_succ (n:Nat) (z:List V):Zns (n+1) z=z++Zns n z:=rfl
end
section
variable (P) (t:TypeId)
def Zil (P:Program) (t:TypeId):Nat :=
 match P.underlying t with
 | some (.pointer _)=>1
 | some (.slice _)=>2
 | some (.func _ _ _)=>3
 | some (.interface _)=>4
 | some (.map _ _)=>5
 | _=>0
def nilK (k:Nat) (a:V):Option Bool :=
 match a with
 | .nilp=>if k=1 then some true else none
 | .view _ _=>if k=1 then some false else none
 | .ptr _ _ _=>if k=1 then some false else none
 | .nils=>if k=2 then some true else none
 | .slice _ _ _ _=>if k=2 then some false else none
 | .msl _ _ _ _ _=>if k=2 then some false else none
 | .nilf=>if k=3 then some true else none
 | .func _ _ _=>if k=3 then some false else none
 | .iface _ _=>if k=4 then some false else none
 | .nilm=>if k=5 then some true else none
 | _=>none
theorem nilB_K (a:V):Zl5 P t a=nilK (Zil P t) a:=by
 unfold Zl5 Zil
 cases h:P.underlying t with
 | none=>cases a<;>rfl
 | some u=>cases u<;>cases a<;>rfl
def Zxf (k:Nat):V:=if k=1 then .nilp else if k=2 then .nils else if k=3 then .nilf else if k=4 then .nili else .nilm
theorem eqV_nil {k:Nat} (h:Zil P t=k) (hk:k≠0) (a:V):eqV P t a (Zxf k)=nilK k a:=by
 have hf:Zui P t (Zxf k)=true:=by
  subst h;unfold Zui Zxf Zil at *
  cases hu:P.underlying t with
  | none=>rw [hu] at hk;exact absurd rfl hk
  | some u=>rw [hu] at hk;cases u<;>first | rfl | exact absurd rfl hk
 have hb:∀ x,Zxf k ≠ .bool x:=by
  intro x;unfold Zxf
  repeat' split
  all_goals exact fun h=>by cases h
 rw [← h,← nilB_K];unfold eqV
 split
 ·rename_i x y e
  rw [h] at e;exact absurd e (hb _)
 ·rw [h,if_pos hf]
theorem Zw7 {k:Nat} (h:Zil P t=k) (hk:k≠0) (a:V):Zqj P .eql t a (Zxf k)=(nilK k a).map .bool∧Zqj P .neq t a (Zxf k)=(nilK k a).map fun r => .bool (!r):=by
 rw [← eqV_nil P t h hk]
 have h1:∀ k' n,Zxf k ≠ .int k' n:=by
  intro k' n;unfold Zxf
  repeat' split
  all_goals exact fun h=>by cases h
 have h2:∀ l,Zxf k ≠ .str l:=by
  intro l;unfold Zxf
  repeat' split
  all_goals exact fun h=>by cases h
 have h3:∀ l,Zxf k ≠ .agg l:=by
  intro l;unfold Zxf
  repeat' split
  all_goals exact fun h=>by cases h
 generalize Zxf k=b at *;unfold Zqj
 constructor
 ·split
  ·exact absurd rfl (h1 _ _)
  ·exact absurd rfl (h2 _)
  ·exact absurd rfl (h3 _)
  ·rfl
 ·split
  ·exact absurd rfl (h1 _ _)
  ·exact absurd rfl (h2 _)
  ·exact absurd rfl (h3 _)
  ·rfl
@[go_sem] theorem nilK_nils:nilK 2 .nils=some true:=rfl
@[go_sem] theorem nilK_slice (c:Col) (b:Bool) (m:Nat) (l:List V):nilK 2 (.slice c b m l)=some false:=rfl
end
def bsK (m:Nat) (z:List V) (len:Nat) (parts:List (Nat × V)):Option (Nat × Nat × List V) :=
 if len * m≤16777216 then (Zwd (fun i=>some (i * m,m)) (Zns len z) parts).map fun cs=>(m,len,cs) else none
theorem Zw4 {P:Program} {t e:TypeId} {m:Nat} {z:List V} (h1:P.underlying t=some (.slice e)) (h2:Zqb P e=some m) (h3:Z4c P e=some z) (h4:z.length=m) (len:Nat) (parts:List (Nat × V)) :
  Z0o P t len parts=bsK m z len parts:=by
 unfold Z0o bsK;simp only [h1,h2,h3,h4,true_and]
def Zl8 (m:Nat):Nat→Option (Nat × Nat):=fun i=>some (i * m,m)
def Zz5 (tbl:List (Nat × Nat)):Nat→Option (Nat × Nat):=fun i=>tbl[i]?
@[go_sem] theorem bsK_lit (m:Nat) (z:List V) (len:Nat) (parts:List (Nat × V)):bsK m z len parts=if len * m≤16777216 then (Zwd (Zl8 m) (Zns len z) parts).map fun cs=>(m,len,cs) else none:=rfl
@[go_sem] theorem fillV_nil (p:Nat→Option (Nat × Nat)) (cells:List V):Zwd p cells []=some cells:=rfl
@[go_sem] theorem fillV_mul (m:Nat) (cells:List V) (i:Nat) (v:V) (rest:List (Nat × V)):Zwd (Zl8 m) cells ((i,v)::rest) =
  if v.solid=true∧v.cells.length=m∧i * m+m≤cells.length then Zwd (Zl8 m) (setAt cells (i * m) v.cells) rest else none:=rfl
def fillT (tbl:List (Nat × Nat)) (p:Option (Nat × Nat)) (cells:List V) (v:V) (rest:List (Nat × V)):Option (List V) :=
 match p with
 | none=>none
 | some (off,size)=>if v.solid=true∧v.cells.length=size∧off+size≤cells.length then Zwd (Zz5 tbl) (setAt cells off v.cells) rest else none
@[go_sem] theorem fillV_tbl (tbl:List (Nat × Nat)) (cells:List V) (i:Nat) (v:V) (rest:List (Nat × V)):Zwd (Zz5 tbl) cells ((i,v)::rest)=fillT tbl (tbl[i]?) cells v rest:=rfl
@[go_sem] theorem fillT_some (tbl:List (Nat × Nat)) (off size:Nat) (cells:List V) (v:V) (rest:List (Nat × V)):fillT tbl (some (off,size)) cells v rest =
  if v.solid=true∧v.cells.length=size∧off+size≤cells.length then Zwd (Zz5 tbl) (setAt cells off v.cells) rest else none:=rfl
def tblOf (P:Program) (t:TypeId):Option (List (Nat × Nat)) :=
 match P.underlying t with
 | some (.struct fs)=>fs.toList.mapM fun f=>(Zqb P f.type).map fun n=>(f.offset,n)
 | _=>none
theorem Zpy {α β : Type} {f : α → Option β}:∀ {l:List α} {r:List β},l.mapM f=some r→(l.all fun x=>(f x).isSome)=true∧∀ i:Nat,r[i]? = (l[i]?).bind f
 | [],r,h=>by
  simp at h;subst h;exact ⟨rfl,fun i=>by simp⟩
 | x::l,r,h=>by
  simp only [List.mapM_cons,Option.bind_eq_bind,Option.bind_eq_some_iff,Option.pure_def,Option.some.injEq] at h;obtain ⟨y,hy,ys,hys,rfl⟩:=h;obtain ⟨h1,h2⟩:=Zpy hys;refine ⟨by simp [hy];simpa using h1,fun i=>?_⟩
  cases i with
  | zero=>simp [hy]
  | succ i=>simpa using h2 i
theorem Z6y {P:Program} {t:TypeId} {tbl:List (Nat × Nat)} {z:List V} (h1:tblOf P t=some tbl) (h2:Zrf P t=some (.agg z)) (parts:List (Nat × V)) :
  Z3f P t parts=(Zwd (Zz5 tbl) z parts).map .agg:=by
 unfold tblOf at h1
 cases hu:P.underlying t with
 | none=>rw [hu] at h1;cases h1
 | some k =>
  rw [hu] at h1
  cases k<;>simp only [reduceCtorEq] at h1
  rename_i fs;obtain ⟨h3,h4⟩:=Zpy h1;unfold Z3f;rw [hu,h2]
  have h5:(fs.toList.all fun f=>(Zqb P f.type).isSome)=true:=by simpa using h3
  simp only [h5,Bool.true_and]
  have e:(fun i=>(fs[i]?).bind fun f=>(Zqb P f.type).map fun n=>(f.offset,n))=Zz5 tbl:=by
   funext i
   have:=h4 i;unfold Zz5;rw [this];simp
  rw [e];rfl
def slJ (i j:Option Nat) (f:Nat→Nat→Option V):Option V:=match i,j with | some i,some j=>f i j | _,_=>none
@[go_sem] theorem Zc6 (i j:Nat) (f:Nat→Nat→Option V):slJ (some i) (some j) f=f i j:=rfl
@[go_sem] theorem Z1w (d:Nat):Zoa d none=some d:=rfl
@[go_sem] theorem boundV_int (d:Nat) (k:IntKind) (n:Int):Zoa d (some (.int k n))=if 0≤n then some n.toNat else none:=rfl
def slK (m:Nat) (a:V) (lo hi:Option V):Option V :=
 match a with
 | .slice c clip E l=>slJ (Zoa 0 lo) (Zoa l.length hi) fun i j=>if m=E∧i≤j∧j≤l.length then some (.slice c (clip && j==l.length) E ((l.drop i).take (j-i))) else none
 | .msl o g off len E=>slJ (Zoa 0 lo) (Zoa len hi) fun i j =>
   if m=E∧i≤j∧j≤len then some (if i=0 then .msl o g off j E else if i<j then .msl o g (off+i * E) (j-i) E else .slice .any false E []) else none
 | .nils=>slJ (Zoa 0 lo) (Zoa 0 hi) fun i j=>if i=0∧j=0 then some .nils else none
 | _=>none
theorem Z2h {t:TypeId} {m:Nat} (h:Z2f P t=some m) (a:V) (lo hi:Option V):Z3e P t a lo hi none=slK m a lo hi:=by
 unfold Z2f at h;unfold Z3e slK
 split at h
 ·rename_i e hu
  rw [hu]
  cases a<;>try rfl
  ·simp only [h,Option.isSome_some,if_true]
   cases h1:Zoa 0 lo with
   | none=>rfl
   | some i =>
    cases h2:Zoa 0 hi with
    | none=>cases i<;>rfl
    | some j =>
     simp only [Z1w,Zc6]
     cases i with
     | zero=>cases j<;>rfl
     | succ i=>rw [if_neg (by simp)];rfl
  ·rename_i c clip E l
   simp only [h,Option.some.injEq]
   cases Zoa 0 lo with
   | none=>rfl
   | some i =>
    cases Zoa l.length hi with
    | none=>rfl
    | some j=>rfl
  ·rename_i o g off len E
   simp only [h,Option.some.injEq]
   cases Zoa 0 lo with
   | none=>rfl
   | some i =>
    cases Zoa len hi with
    | none=>rfl
    | some j=>rfl
 ·simp at h
@[go_sem] theorem slK_msl (m o g off len E:Nat) (lo hi:Option V):slK m (.msl o g off len E) lo hi =
  slJ (Zoa 0 lo) (Zoa len hi) fun i j=>if m=E∧i≤j∧j≤len then some (if i=0 then .msl o g off j E else if i<j then .msl o g (off+i * E) (j-i) E else .slice .any false E []) else none:=rfl
@[go_sem] theorem slK_nils (m:Nat) (lo hi:Option V):slK m .nils lo hi=slJ (Zoa 0 lo) (Zoa 0 hi) fun i j=>if i=0∧j=0 then some .nils else none:=rfl
theorem Z3y {s d:TypeId} {kd:IntKind} (h1:(P.underlying s).isSome=true) (h2:P.underlying d=some (.int kd)) (k:IntKind) (n:Int):Zpu P s d (.int k n)=some (.int kd (kd.wrap n)):=by
 unfold Zpu;rw [h2]
 cases h:P.underlying s with
 | none=>rw [h] at h1;cases h1
 | some t=>rfl
end
end Go.Hs
end
