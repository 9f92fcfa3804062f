/- Part 18 of the proof of a statement of seat YtnjcehngoajnnaaGreatDoor: HsSimp. -/
import Derived.Test.YtnjcehngoajnnaaGreatDoorPart17
import Derived.Attr
set_option linter.unusedSimpArgs false
set_option linter.unusedVariables false
section
namespace Go.Hs
variable {P:Program} {E:Ent}
def optK {α : Type} (o:Option α) (K : α → Prop):Prop:=match o with | some v=>K v | none=>False
def contV (P:Program) (E:Ent) (ops:Array Oper) (Q:AS→Prop) (rest:List Oper) (d:Option Nat) (τ : Nat→V) (H:Heap) (o:Option V):Prop:=optK o fun v=>opsA P E ops Q rest (AS.put ⟨τ,H⟩ d v)
def contH (P:Program) (E:Ent) (ops:Array Oper) (Q:AS→Prop) (rest:List Oper) (d:Option Nat) (τ : Nat→V) (o:Option Heap):Prop:=optK o fun H=>opsA P E ops Q rest (AS.put ⟨τ,H⟩ d (.tuple []))
def contP (P:Program) (E:Ent) (ops:Array Oper) (Q:AS→Prop) (rest:List Oper) (e:Nat) (τ : Nat→V) (H:Heap) (o:Option (List V)):Prop :=
 optK o fun cs=>∀ g,opsA P E ops Q rest ⟨upd τ e (.ptr (E.q+e) g 0),upd H (E.q+e) (.cells .new g 0 cs)⟩
def contS (P:Program) (E:Ent) (ops:Array Oper) (Q:AS→Prop) (rest:List Oper) (e:Nat) (τ : Nat→V) (H:Heap) (o:Option (Nat × Nat × List V)):Prop :=
 optK o fun c=>∀ g,opsA P E ops Q rest ⟨upd τ e (.msl (E.q+e) g 0 c.2.1 c.1),upd H (E.q+e) (.cells .new g 0 c.2.2)⟩
@[go_sem] theorem upd_apply {α : Type} (f:Nat → α) (k:Nat) (x : α) (n:Nat):upd f k x n=if n=k then x else f n:=rfl
@[go_sem] theorem ev_tmp (τ : Nat→V) (H:Heap) (t:Nat):AS.ev E ⟨τ,H⟩ (.tmp t) = τ t:=rfl
@[go_sem] theorem ev_int (τ : Nat→V) (H:Heap) (k:IntKind) (n:Int):AS.ev E ⟨τ,H⟩ (.const (.int k n)) = .int k n:=rfl
@[go_sem] theorem ev_bool (τ : Nat→V) (H:Heap) (b:Bool):AS.ev E ⟨τ,H⟩ (.const (.bool b)) = .bool b:=rfl
@[go_sem] theorem ev_str (τ : Nat→V) (H:Heap) (s:ByteArray):AS.ev E ⟨τ,H⟩ (.const (.string s)) = .str s.data.toList:=rfl
@[go_sem] theorem ev_nils (τ : Nat→V) (H:Heap):AS.ev E ⟨τ,H⟩ (.const (.slice none 0 0)) = .nils:=rfl
@[go_sem] theorem ev_nilm (τ : Nat→V) (H:Heap):AS.ev E ⟨τ,H⟩ (.const (.map none)) = .nilm:=rfl
@[go_sem] theorem ev_func (τ : Nat→V) (H:Heap) (f:FuncId):AS.ev E ⟨τ,H⟩ (.func f) = .func (.func f) [] []:=rfl
@[go_sem] theorem ev_global (τ : Nat→V) (H:Heap) (g:Nat):AS.ev E ⟨τ,H⟩ (.global g)=E.G g:=rfl
@[go_sem] theorem put_some (τ : Nat→V) (H:Heap) (d:Nat) (v:V):AS.put ⟨τ,H⟩ (some d) v=⟨upd τ d v,H⟩:=rfl
@[go_sem] theorem put_none (τ : Nat→V) (H:Heap) (v:V):AS.put ⟨τ,H⟩ none v=⟨τ,H⟩:=rfl
@[go_sem] theorem argsE_cons (k:Nat) (v:V) (r:List V):argsE k (v::r)=upd (argsE (k+1) r) k v:=rfl
attribute [go_sem] List.map_cons List.map_nil List.length_cons List.length_nil List.getElem?_cons_zero List.getElem?_cons_succ List.drop_succ_cons List.drop_zero List.take_succ_cons List.take_zero
 List.set_cons_zero List.set_cons_succ List.append_nil List.nil_append List.cons_append Option.map_some Option.map_none Nat.zero_add Nat.add_zero Int.toNat_natCast and_true true_and Bool.not_true Bool.not_false
 and_self Int.natCast_nonneg Bool.false_eq_true Bool.true_eq_false eq_self if_true if_false ne_eq not_true_eq_false not_false_eq_true false_implies true_implies Option.bind_some forall_const
section
variable {ops:Array Oper} {Q:AS→Prop} {rest:List Oper} {τ : Nat→V} {H:Heap} {d:Option Nat} {ty:TypeId} {pos:String} {af:Array Edge}
@[go_sem] theorem opsA_nil (s:AS):opsA P E ops Q [] s=Q s:=rfl
def guardK (b:Option Bool) (K0 K1:Prop):Prop:=match b with | some true=>K1 | some false=>K0 | none=>False
@[congr] theorem guardK_congr {b b':Option Bool} {K0 K1:Prop} (h:b=b'):guardK b K0 K1=guardK b' K0 K1:=by rw [h]
@[go_sem] theorem guardK_true (K0 K1:Prop):guardK (some true) K0 K1=K1:=rfl
@[go_sem] theorem guardK_false (K0 K1:Prop):guardK (some false) K0 K1=K0:=rfl
def guardV (v:V) (want:Bool):Option Bool :=
 match v with
 | .bool b=>some (b==want)
 | .tuple []=>some false
 | _=>none
@[go_sem] theorem guardV_true (b:Bool):guardV (.bool b) true=some b:=by cases b<;>rfl
@[go_sem] theorem guardV_false (b:Bool):guardV (.bool b) false=some (!b):=by cases b<;>rfl
@[go_sem] theorem guardV_undef (want:Bool):guardV (.tuple []) want=some false:=rfl
def slotAt (l:List Oper) (j:Nat):Option Nat:=(l[j]?).bind (·.dst)
@[go_sem] theorem slotAt_zero (o:Oper) (l:List Oper):slotAt (o::l) 0=o.dst:=rfl
@[go_sem] theorem slotAt_succ (o:Oper) (l:List Oper) (j:Nat):slotAt (o::l) (j+1)=slotAt l j:=rfl
def guardAt (v:Option V) (want:Bool):Option Bool:=match v with | some v=>guardV v want | none=>some false
@[go_sem] theorem guardAt_some (v:V) (want:Bool):guardAt (some v) want=guardV v want:=rfl
theorem opsA_cons (s:AS) (o:Oper):opsA P E ops Q (o::rest) s=guardK (wantedA ops s.τ o) (opsA P E ops Q rest (s.put o.dst (.tuple []))) (stepA P E s o fun v H'=>opsA P E ops Q rest (AS.put { s with H:=H' } o.dst v)):=by
 simp only [opsA,guardK]
 cases wantedA ops s.τ o with
 | none=>rfl
 | some b=>cases b<;>rfl
@[go_sem] theorem opsA_guard (l:List Oper) (op:Op) (j:Nat) (want:Bool) :
  opsA P E ⟨l⟩ Q (⟨d,op,ty,pos,af,some (j,want)⟩::rest) ⟨τ,H⟩ =
   guardK (guardAt ((slotAt l j).map τ) want) (opsA P E ⟨l⟩ Q rest (AS.put ⟨τ,H⟩ d (.tuple []))) (opsA P E ⟨l⟩ Q (⟨d,op,ty,pos,af,none⟩::rest) ⟨τ,H⟩):=by
 rw [opsA_cons,opsA_cons]
 have e1:wantedA ⟨l⟩ τ ⟨d,op,ty,pos,af,none⟩=some true:=rfl
 have e2:wantedA ⟨l⟩ τ ⟨d,op,ty,pos,af,some (j,want)⟩=guardAt ((slotAt l j).map τ) want:=by
  unfold wantedA slotAt
  simp only [List.getElem?_toArray]
  cases (l[j]?).bind (·.dst) with
  | none=>rfl
  | some e =>
   simp only [Option.map_some,guardAt,guardV]
   generalize τ e=v
   cases v<;>rfl
 rw [e1,e2]
 simp only [guardK_true]
 rfl
variable (ops)
theorem opsA_val (op:Op) (hs:∀ K,stepA P E ⟨τ,H⟩ ⟨d,op,ty,pos,af,none⟩ K=(match opV P (AS.ev E ⟨τ,H⟩) ⟨d,op,ty,pos,af,none⟩ with | some v=>K v H | none=>False)) :
  opsA P E ops Q (⟨d,op,ty,pos,af,none⟩::rest) ⟨τ,H⟩=contV P E ops Q rest d τ H (opV P (AS.ev E ⟨τ,H⟩) ⟨d,op,ty,pos,af,none⟩):=by
 rw [opsA_cons]
 have e1:wantedA ops (⟨τ,H⟩:AS).τ ⟨d,op,ty,pos,af,none⟩=some true:=rfl
 rw [e1,guardK_true,hs]
 unfold contV optK
 cases opV P (AS.ev E ⟨τ,H⟩) ⟨d,op,ty,pos,af,none⟩<;>rfl
@[go_sem] theorem opsA_move (x:Operand):opsA P E ops Q (⟨d,.move x,ty,pos,af,none⟩::rest) ⟨τ,H⟩=opsA P E ops Q rest (AS.put ⟨τ,H⟩ d (AS.ev E ⟨τ,H⟩ x)):=opsA_val ops _ fun _=>rfl
@[go_sem] theorem opsA_assign (x:Operand):opsA P E ops Q (⟨d,.assign x,ty,pos,af,none⟩::rest) ⟨τ,H⟩=opsA P E ops Q rest (AS.put ⟨τ,H⟩ d (AS.ev E ⟨τ,H⟩ x)):=opsA_val ops _ fun _=>rfl
def pickV (c a b:V):Option V:=match c with | .bool true=>some a | .bool false=>some b | _=>none
@[go_sem] theorem pickV_true (a b:V):pickV (.bool true) a b=some a:=rfl
@[go_sem] theorem pickV_false (a b:V):pickV (.bool false) a b=some b:=rfl
@[go_sem] theorem pickV_bools (c a b:Bool):pickV (.bool c) (.bool a) (.bool b)=some (.bool (if c then a else b)):=by cases c<;>rfl
@[go_sem] theorem opsA_pick (c a b:Operand):opsA P E ops Q (⟨d,.pick c a b,ty,pos,af,none⟩::rest) ⟨τ,H⟩ =
  contV P E ops Q rest d τ H (pickV (AS.ev E ⟨τ,H⟩ c) (AS.ev E ⟨τ,H⟩ a) (AS.ev E ⟨τ,H⟩ b)):=opsA_val ops _ fun _=>rfl
@[go_sem] theorem opsA_binOp (op:BinOp) (t:TypeId) (x y:Operand) (u:TypeId):opsA P E ops Q (⟨d,.binOp op t x y u,ty,pos,af,none⟩::rest) ⟨τ,H⟩ =
  contV P E ops Q rest d τ H (binV P op t (AS.ev E ⟨τ,H⟩ x) (AS.ev E ⟨τ,H⟩ y)):=opsA_val ops _ fun _=>rfl
@[go_sem] theorem opsA_unOp (op:UnOp) (t:TypeId) (x:Operand):opsA P E ops Q (⟨d,.unOp op t x,ty,pos,af,none⟩::rest) ⟨τ,H⟩ =
  contV P E ops Q rest d τ H (unV op (AS.ev E ⟨τ,H⟩ x)):=opsA_val ops _ fun _=>rfl
@[go_sem] theorem opsA_convert (t u:TypeId) (x:Operand):opsA P E ops Q (⟨d,.convert t u x,ty,pos,af,none⟩::rest) ⟨τ,H⟩ =
  contV P E ops Q rest d τ H (convV P t u (AS.ev E ⟨τ,H⟩ x)):=opsA_val ops _ fun _=>rfl
def extractV (t:V) (i:Nat):Option V:=match t with | .tuple vs=>vs[i]? | _=>none
@[go_sem] theorem extractV_tuple (vs:List V) (i:Nat):extractV (.tuple vs) i=vs[i]? := rfl
@[go_sem] theorem opsA_extract (x:Operand) (i:Nat):opsA P E ops Q (⟨d,.extract x i,ty,pos,af,none⟩::rest) ⟨τ,H⟩ =
  contV P E ops Q rest d τ H (extractV (AS.ev E ⟨τ,H⟩ x) i):=opsA_val ops _ fun _=>rfl
@[go_sem] theorem opsA_field (t:TypeId) (x:Operand) (f:Nat):opsA P E ops Q (⟨d,.field t x f,ty,pos,af,none⟩::rest) ⟨τ,H⟩ =
  contV P E ops Q rest d τ H (fieldV P t (AS.ev E ⟨τ,H⟩ x) f):=opsA_val ops _ fun _=>rfl
@[go_sem] theorem opsA_fieldAddr (t:TypeId) (x:Operand) (f:Nat):opsA P E ops Q (⟨d,.fieldAddr t x f,ty,pos,af,none⟩::rest) ⟨τ,H⟩ =
  contV P E ops Q rest d τ H (fieldAddrV P t (AS.ev E ⟨τ,H⟩ x) f):=opsA_val ops _ fun _=>rfl
@[go_sem] theorem opsA_indexAddr (t:TypeId) (x i:Operand):opsA P E ops Q (⟨d,.indexAddr t x i,ty,pos,af,none⟩::rest) ⟨τ,H⟩ =
  contV P E ops Q rest d τ H (indexAddrV P t (AS.ev E ⟨τ,H⟩ x) (AS.ev E ⟨τ,H⟩ i)):=opsA_val ops _ fun _=>rfl
@[go_sem] theorem opsA_index (t:TypeId) (x i:Operand):opsA P E ops Q (⟨d,.index t x i,ty,pos,af,none⟩::rest) ⟨τ,H⟩ =
  contV P E ops Q rest d τ H (indexV P t (AS.ev E ⟨τ,H⟩ x) (AS.ev E ⟨τ,H⟩ i)):=opsA_val ops _ fun _=>rfl
@[go_sem] theorem opsA_slice (t:TypeId) (x:Operand) (lo hi mx:Option Operand):opsA P E ops Q (⟨d,.slice t x lo hi mx,ty,pos,af,none⟩::rest) ⟨τ,H⟩ =
  contV P E ops Q rest d τ H (sliceV P t (AS.ev E ⟨τ,H⟩ x) (lo.map (AS.ev E ⟨τ,H⟩)) (hi.map (AS.ev E ⟨τ,H⟩)) (mx.map (AS.ev E ⟨τ,H⟩))):=opsA_val ops _ fun _=>rfl
@[go_sem] theorem opsA_build (t:TypeId) (l:List (Nat × Operand)):opsA P E ops Q (⟨d,.build t ⟨l⟩,ty,pos,af,none⟩::rest) ⟨τ,H⟩ =
  contV P E ops Q rest d τ H (buildV P t (l.map fun p=>(p.1,AS.ev E ⟨τ,H⟩ p.2))):=opsA_val ops _ fun _=>rfl
@[go_sem] theorem opsA_makeFunc (fn:Fn) (l m:List Operand):opsA P E ops Q (⟨d,.makeFunc fn ⟨l⟩ ⟨m⟩,ty,pos,af,none⟩::rest) ⟨τ,H⟩ =
  opsA P E ops Q rest (AS.put ⟨τ,H⟩ d (.func fn (l.map (AS.ev E ⟨τ,H⟩)) (m.map (AS.ev E ⟨τ,H⟩)))):=opsA_val ops _ fun _=>rfl
@[go_sem] theorem maxL_two (k k':IntKind) (x y:Int):maxL [.int k x,.int k' y]=some (.int k (if y > x then y else x)):=rfl
@[go_sem] theorem maxL_three (k k' k'':IntKind) (x y z:Int):maxL [.int k x,.int k' y,.int k'' z]=some (.int k (if z > (if y > x then y else x) then z else (if y > x then y else x))):=rfl
@[go_sem] theorem opsA_max (l:List Operand) (ats:List TypeId):opsA P E ops Q (⟨d,.call ⟨.builtin .max,⟨l⟩,⟨ats⟩⟩,ty,pos,af,none⟩::rest) ⟨τ,H⟩ =
  contV P E ops Q rest d τ H (maxL (l.map (AS.ev E ⟨τ,H⟩))):=opsA_val ops _ fun _=>rfl
@[go_sem] theorem opsA_len (x:Operand) (t:TypeId):opsA P E ops Q (⟨d,.call ⟨.builtin .len,⟨[x]⟩,⟨[t]⟩⟩,ty,pos,af,none⟩::rest) ⟨τ,H⟩ =
  contV P E ops Q rest d τ H (lenV P t (AS.ev E ⟨τ,H⟩ x)):=opsA_val ops _ fun _=>rfl
@[go_sem] theorem opsA_nilCheck (x:Operand):opsA P E ops Q (⟨d,.nilCheck x,ty,pos,af,none⟩::rest) ⟨τ,H⟩ =
  contV P E ops Q rest d τ H (opV P (AS.ev E ⟨τ,H⟩) ⟨d,.nilCheck x,ty,pos,af,none⟩):=opsA_val ops _ fun _=>rfl
theorem opsA_step (op:Op):opsA P E ops Q (⟨d,op,ty,pos,af,none⟩::rest) ⟨τ,H⟩=stepA P E ⟨τ,H⟩ ⟨d,op,ty,pos,af,none⟩ fun v H'=>opsA P E ops Q rest (AS.put ⟨τ,H'⟩ d v):=by
 rw [opsA_cons]
 rfl
@[go_sem] theorem opsA_load (t:TypeId) (x:Operand):opsA P E ops Q (⟨d,.load t x,ty,pos,af,none⟩::rest) ⟨τ,H⟩ =
  contV P E ops Q rest d τ H (readV P H t (AS.ev E ⟨τ,H⟩ x)):=by
 rw [opsA_step]
 simp only [stepA,contV,optK]
 cases readV P H t (AS.ev E ⟨τ,H⟩ x)<;>rfl
@[go_sem] theorem opsA_store (t:TypeId) (p x:Operand):opsA P E ops Q (⟨d,.store t p x,ty,pos,af,none⟩::rest) ⟨τ,H⟩ =
  contH P E ops Q rest d τ (storeH P H t (AS.ev E ⟨τ,H⟩ p) (AS.ev E ⟨τ,H⟩ x)):=by
 rw [opsA_step]
 simp only [stepA,contH,optK]
 cases storeH P H t (AS.ev E ⟨τ,H⟩ p) (AS.ev E ⟨τ,H⟩ x)<;>rfl
def zeroC (P:Program) (t:TypeId):Option (List V):=(zeroV P t).bind fun z=>if z.solid then some z.cells else none
@[go_sem] theorem opsA_alloc (t:TypeId) (e:Nat):opsA P E ops Q (⟨some e,.alloc t,ty,pos,af,none⟩::rest) ⟨τ,H⟩ =
  contP P E ops Q rest e τ H (zeroC P t):=by
 rw [opsA_step]
 simp only [stepA,zeroC,contP]
 cases zeroV P t with
 | none=>rfl
 | some z =>
  simp only [Option.bind_some]
  cases hz:z.solid with
  | false=>simp [optK]
  | true=>simp [optK,AS.put]
def solidC (v:V):Option (List V):=if v.solid then some v.cells else none
@[go_sem] theorem opsA_box (t:TypeId) (x:Operand) (e:Nat):opsA P E ops Q (⟨some e,.box t x,ty,pos,af,none⟩::rest) ⟨τ,H⟩ =
  contP P E ops Q rest e τ H (solidC (AS.ev E ⟨τ,H⟩ x)):=by
 rw [opsA_step]
 simp only [stepA,solidC,contP]
 cases hz:(AS.ev E ⟨τ,H⟩ x).solid with
 | false=>simp [optK]
 | true=>simp [optK,AS.put]
def bsCells (P:Program) (t:TypeId) (len:Nat) (parts:List (Nat × V)):Option (Nat × Nat × List V) :=
 match P.underlying t with
 | some (.slice e)=>match szOf P e,zeroC P e with
  | some E,some z=>if z.length=E∧len * E≤16777216 then (fillV (fun i=>some (i * E,E)) (repV len z) parts).map fun cs=>(E,len,cs) else none
  | _,_=>none
 | _=>none
@[go_sem] theorem opsA_buildSlice (t:TypeId) (len e:Nat) (l:List (Nat × Operand)):opsA P E ops Q (⟨some e,.buildSlice t len ⟨l⟩,ty,pos,af,none⟩::rest) ⟨τ,H⟩ =
  contS P E ops Q rest e τ H (bsCells P t len (l.map fun p=>(p.1,AS.ev E ⟨τ,H⟩ p.2))):=by
 rw [opsA_step]
 simp only [stepA,buildSliceA,bsCells,zeroC,contS]
 cases P.underlying t with
 | none=>rfl
 | some k =>
  cases k<;>try rfl
  rename_i e'
  simp only
  cases szOf P e' with
  | none=>rfl
  | some n =>
   cases zeroV P e' with
   | none=>rfl
   | some z =>
    simp only [Option.bind_some]
    cases hz:z.solid with
    | false=>simp [optK]
    | true =>
     simp only [if_true,true_and]
     by_cases hc:z.cells.length=n∧len * n≤16777216
     ·rw [if_pos hc]
      simp only [hc.1,hc.2,true_and]
      cases fillV (fun i=>some (i * n,n)) (repV len z.cells) (l.map fun p=>(p.1,AS.ev E ⟨τ,H⟩ p.2)) with
      | none=>simp [optK]
      | some cs=>simp [optK,AS.put]
     ·rw [if_neg hc]
      simp only [optK]
      rw [← and_assoc]
      simp [hc]
def msCells (P:Program) (t:TypeId) (len cap:V):Option (Nat × Nat × List V) :=
 match P.underlying t,len,cap with
 | some (.slice e),.int _ n,.int _ m=>match szOf P e,bytesV P e,zeroC P e with
  | some E,some bytes,some z=>if z.length=E∧0≤n∧n≤m∧m≤4611686018427387904∧bytes * m≤281474976710656 then some (E,n.toNat,repV m.toNat z) else none
  | _,_,_=>none
 | _,_,_=>none
@[go_sem] theorem opsA_makeSlice (t:TypeId) (x y:Operand) (e:Nat):opsA P E ops Q (⟨some e,.makeSlice t x y,ty,pos,af,none⟩::rest) ⟨τ,H⟩ =
  contS P E ops Q rest e τ H (msCells P t (AS.ev E ⟨τ,H⟩ x) (AS.ev E ⟨τ,H⟩ y)):=by
 rw [opsA_step]
 simp only [stepA,makeSliceA,msCells,zeroC,contS]
 generalize AS.ev E ⟨τ,H⟩ x=v
 generalize AS.ev E ⟨τ,H⟩ y=u
 cases P.underlying t with
 | none=>rfl
 | some k =>
  cases k<;>try rfl
  rename_i e'
  cases v<;>try rfl
  cases u<;>try rfl
  rename_i k1 n k2 m
  simp only
  cases szOf P e' with
  | none=>rfl
  | some N =>
   cases bytesV P e' with
   | none=>rfl
   | some B =>
    cases zeroV P e' with
    | none=>rfl
    | some z =>
     simp only [Option.bind_some]
     cases hz:z.solid with
     | false=>simp [optK]
     | true =>
      simp only [if_true,true_and]
      by_cases hc:z.cells.length=N∧0≤n∧n≤m∧m≤4611686018427387904∧B * m≤281474976710656
      ·rw [if_pos hc]
       simp only [hc.1,hc.2.1,hc.2.2.1,hc.2.2.2.1,hc.2.2.2.2,true_and,optK,AS.put]
      ·rw [if_neg hc]
       simp only [optK]
       simp only [← and_assoc] at hc ⊢
       simp [hc]
def callC (P:Program) (E:Ent) (ops:Array Oper) (Q:AS→Prop) (rest:List Oper) (d:Option Nat) (τ : Nat→V) (H:Heap) (f:V) (args:List V):Prop :=
 match f with
 | .func (.func fid) first cap=>CallP P E.G E.kp fid (first++args++cap) H fun v H'=>opsA P E ops Q rest (AS.put ⟨τ,H'⟩ d v)
 | _=>False
def CallC (P:Program) (E:Ent) (ops:Array Oper) (Q:AS→Prop) (rest:List Oper) (d:Option Nat) (τ : Nat→V) (H:Heap) (fid:FuncId) (args:List V):Prop :=
 match E.kp with
 | none=>CallA P E.G fid args H fun v H'=>opsA P E ops Q rest (AS.put ⟨τ,H'⟩ d v)
 | some k=>CallP P E.G (some k) fid args H fun v H'=>opsA P E ops Q rest (AS.put ⟨τ,H'⟩ d v)
@[go_sem] theorem callC_func (fid:FuncId) (first cap args:List V):callC P E ops Q rest d τ H (.func (.func fid) first cap) args=CallC P E ops Q rest d τ H fid (first++args++cap):=by
 simp only [callC,CallC]
 cases E.kp with
 | none=>exact CallP.none_eq
 | some k=>rfl
@[go_sem] theorem opsA_call (f:Operand) (l:List Operand) (ats:Array TypeId):opsA P E ops Q (⟨d,.call ⟨.value f,⟨l⟩,ats⟩,ty,pos,af,none⟩::rest) ⟨τ,H⟩ =
  callC P E ops Q rest d τ H (AS.ev E ⟨τ,H⟩ f) (l.map (AS.ev E ⟨τ,H⟩)):=by
 rw [opsA_step]
 rfl
def appC (P:Program) (E:Ent) (ops:Array Oper) (Q:AS→Prop) (rest:List Oper) (e:Nat) (τ : Nat→V) (H:Heap) (ats:List TypeId) (a b:V):Prop :=
 appendA P H (E.q+e) ⟨ats⟩ a b fun v H'=>opsA P E ops Q rest (AS.put ⟨τ,H'⟩ (some e) v)
@[go_sem] theorem opsA_append (x y:Operand) (ats:List TypeId) (e:Nat):opsA P E ops Q (⟨some e,.call ⟨.builtin .append,⟨[x,y]⟩,⟨ats⟩⟩,ty,pos,af,none⟩::rest) ⟨τ,H⟩ =
  appC P E ops Q rest e τ H ats (AS.ev E ⟨τ,H⟩ x) (AS.ev E ⟨τ,H⟩ y):=by
 rw [opsA_step]
 rfl
def appOf (P:Program) (ats:List TypeId):Option (Nat × Nat) :=
 match ats with
 | [t0,t1]=>match P.underlying t0,P.underlying t1 with
  | some (.slice _),some (.int _)=>none
  | some (.slice e),some _=>match szOf P e,bytesV P e,zeroC P e with
   | some E,some bytes,some z=>if z.length=E then some (E,bytes) else none
   | _,_,_=>none
  | _,_=>none
 | _=>none
def appE (P:Program) (E:Ent) (ops:Array Oper) (Q:AS→Prop) (rest:List Oper) (e:Nat) (τ : Nat→V) (H:Heap) (m bytes:Nat) (a:V) (src:Option (Nat × List V)) (ob:AObj):Prop :=
 match src with
 | none=>False
 | some (n,xc) =>
  match a with
  | .nils=>roomOk bytes n∧(n=0→opsA P E ops Q rest ⟨upd τ e .nils,H⟩)∧(n≠0→∀ g,opsA P E ops Q rest ⟨upd τ e (.msl (E.q+e) g 0 n m),upd H (E.q+e) (.cells .new g 0 xc)⟩)
  | .slice c clip m' l=>m'=m∧roomOk bytes (l.length+n)∧(n=0→opsA P E ops Q rest ⟨upd τ e (.slice c clip m l),H⟩) ∧
    (n≠0→clip=true∧∀ g,opsA P E ops Q rest ⟨upd τ e (.msl (E.q+e) g 0 (l.length+n) m),upd H (E.q+e) (.cells .new g 0 (flat l++xc))⟩)
  | .msl o g off len m'=>m'=m∧roomOk bytes (len+n) ∧
   match ob with
   | .cells c g' fz cs=>g=g'∧off+len * m≤cs.length∧fz≤off+len * m ∧
     ∀ g2,opsA P E ops Q rest ⟨upd τ e (.msl o g2 0 (len+n) m),upd H o (.cells c.moved g2 (fz-off) ((cs.drop off).take (len * m)++xc))⟩
   | _=>False
  | _=>False
def obS (H:Heap) (a:V):AObj:=match a with | .msl o _ _ _ _=>H o | _ => .dead
@[go_sem] theorem obS_msl (H:Heap) (o g off len m:Nat):obS H (.msl o g off len m)=H o:=rfl
@[go_sem] theorem obS_nils (H:Heap):obS H .nils = .dead:=rfl
theorem appC_E {ats:List TypeId} {m bytes:Nat} (h:appOf P ats=some (m,bytes)) (e:Nat) (a b:V):appC P E ops Q rest e τ H ats a b=appE P E ops Q rest e τ H m bytes a (srcCells H m b) (obS H a):=by
 unfold appOf at h
 split at h
 case h_2=>simp at h
 rename_i t0 t1
 split at h
 ·simp at h
 ·rename_i e' bt hne h0 h1
  split at h
  ·rename_i N B z hs hb hz
   split at h
   ·rename_i hzl
    simp at h
    obtain ⟨rfl,rfl⟩:=h
    have hzv:∃ zv,zeroV P e'=some zv∧zv.solid=true∧zv.cells=z:=by
     unfold zeroC at hz
     cases hzz:zeroV P e' with
     | none=>rw [hzz] at hz;simp at hz
     | some zv =>
      rw [hzz] at hz
      simp only [Option.bind_some] at hz
      split at hz
      ·rename_i h1;simp at hz;exact ⟨zv,rfl,h1,hz⟩
      ·simp at hz
    obtain ⟨zv,h2,h3,h4⟩:=hzv
    unfold appC appendA
    simp only [h0,h1]
    have fin:appendE H (E.q+e) N B a b (fun v H'=>opsA P E ops Q rest (AS.put ⟨τ,H'⟩ (some e) v))=appE P E ops Q rest e τ H N B a (srcCells H N b) (obS H a):=by
     unfold appendE appE
     cases srcCells H N b with
     | none=>rfl
     | some p =>
      obtain ⟨n,xc⟩:=p
      cases a<;>try rfl
      all_goals (rename_i o g off len m';simp only [obS];cases H o<;>rfl)
    rw [← fin]
    cases bt<;>first | exact absurd rfl (hne _) | simp only [hs,hb,h2,h3,h4,hzl,true_and]
   ·simp at h
  ·simp at h
 ·simp at h
def srcK (m:Nat) (ob:AObj) (x:V):Option (Nat × List V) :=
 match x with
 | .nils=>some (0,[])
 | .slice _ _ E' l=>if E'=m then some (l.length,flat l) else none
 | .msl _ g off len E'=>match ob with
  | .cells _ g' _ cs=>if E'=m∧g=g'∧off+len * m≤cs.length then some (len,(cs.drop off).take (len * m)) else none
  | _=>none
 | .str s=>if m=1 then some (s.length,s.map fun b => .int .u8 b.toNat) else none
 | _=>none
@[go_sem] theorem srcCells_K (H:Heap) (m:Nat) (x:V):srcCells H m x=srcK m (obS H x) x:=by
 unfold srcCells srcK
 cases x<;>rfl
@[go_sem] theorem srcK_msl (m:Nat) (o g off len E':Nat) (c:Col) (g' fz:Nat) (cs:List V):srcK m (.cells c g' fz cs) (.msl o g off len E') =
  if E'=m∧g=g'∧off+len * m≤cs.length then some (len,(cs.drop off).take (len * m)) else none:=rfl
theorem appE_nils (e m bytes n:Nat) (xc:List V) (ob:AObj):appE P E ops Q rest e τ H m bytes .nils (some (n,xc)) ob =
  (roomOk bytes n∧(n=0→opsA P E ops Q rest ⟨upd τ e .nils,H⟩)∧(n≠0→∀ g,opsA P E ops Q rest ⟨upd τ e (.msl (E.q+e) g 0 n m),upd H (E.q+e) (.cells .new g 0 xc)⟩)):=rfl
@[go_sem] theorem appE_msl (e m bytes n:Nat) (xc:List V) (o g off len m':Nat) (c:Col) (g' fz:Nat) (cs:List V):appE P E ops Q rest e τ H m bytes (.msl o g off len m') (some (n,xc)) (.cells c g' fz cs) =
  (m'=m∧roomOk bytes (len+n)∧g=g'∧off+len * m≤cs.length∧fz≤off+len * m ∧
     ∀ g2,opsA P E ops Q rest ⟨upd τ e (.msl o g2 0 (len+n) m),upd H o (.cells c.moved g2 (fz-off) ((cs.drop off).take (len * m)++xc))⟩):=rfl
@[go_sem] theorem contV_some (v:V):contV P E ops Q rest d τ H (some v)=opsA P E ops Q rest (AS.put ⟨τ,H⟩ d v):=rfl
@[go_sem] theorem contH_some (H:Heap):contH P E ops Q rest d τ (some H)=opsA P E ops Q rest (AS.put ⟨τ,H⟩ d (.tuple [])):=rfl
@[go_sem] theorem contP_some (e:Nat) (cs:List V):contP P E ops Q rest e τ H (some cs)=∀ g,opsA P E ops Q rest ⟨upd τ e (.ptr (E.q+e) g 0),upd H (E.q+e) (.cells .new g 0 cs)⟩:=rfl
@[go_sem] theorem contS_some (e m len:Nat) (cs:List V):contS P E ops Q rest e τ H (some (m,len,cs))=∀ g,opsA P E ops Q rest ⟨upd τ e (.msl (E.q+e) g 0 len m),upd H (E.q+e) (.cells .new g 0 cs)⟩:=rfl
end
section
variable (P) (t:TypeId) (k:IntKind) (a b:Int)
theorem binV_int (op:BinOp) (h1:op ≠ .shl) (h2:op ≠ .shr):binV P op t (.int k a) (.int k b)=intV op k a b:=by
 simp only [binV]
 rw [if_neg (by simp [h1,h2])]
 simp
@[go_sem] theorem binV_add:binV P .add t (.int k a) (.int k b)=some (.int k (k.wrap (a+b))):=binV_int P t k a b .add (by simp) (by simp)
@[go_sem] theorem binV_sub:binV P .sub t (.int k a) (.int k b)=some (.int k (k.wrap (a-b))):=binV_int P t k a b .sub (by simp) (by simp)
@[go_sem] theorem binV_mul:binV P .mul t (.int k a) (.int k b)=some (.int k (k.wrap (a * b))):=binV_int P t k a b .mul (by simp) (by simp)
@[go_sem] theorem binV_quo:binV P .quo t (.int k a) (.int k b)=if b=0 then none else some (.int k (k.wrap (a.tdiv b))):=binV_int P t k a b .quo (by simp) (by simp)
@[go_sem] theorem binV_rem:binV P .rem t (.int k a) (.int k b)=if b=0 then none else some (.int k (a.tmod b)):=binV_int P t k a b .rem (by simp) (by simp)
@[go_sem] theorem binV_eql:binV P .eql t (.int k a) (.int k b)=some (.bool (a==b)):=binV_int P t k a b .eql (by simp) (by simp)
@[go_sem] theorem binV_neq:binV P .neq t (.int k a) (.int k b)=some (.bool (a != b)):=binV_int P t k a b .neq (by simp) (by simp)
@[go_sem] theorem binV_lss:binV P .lss t (.int k a) (.int k b)=some (.bool (decide (a<b))):=binV_int P t k a b .lss (by simp) (by simp)
@[go_sem] theorem binV_leq:binV P .leq t (.int k a) (.int k b)=some (.bool (decide (a≤b))):=binV_int P t k a b .leq (by simp) (by simp)
@[go_sem] theorem binV_gtr:binV P .gtr t (.int k a) (.int k b)=some (.bool (decide (a > b))):=binV_int P t k a b .gtr (by simp) (by simp)
@[go_sem] theorem binV_geq:binV P .geq t (.int k a) (.int k b)=some (.bool (decide (a≥b))):=binV_int P t k a b .geq (by simp) (by simp)
end
@[go_sem] theorem binV_str (op:BinOp) (t:TypeId) (a b:List UInt8):binV P op t (.str a) (.str b)=strV op a b:=rfl
@[go_sem] theorem strV_eql (a b:List UInt8):strV .eql a b=some (.bool (a==b)):=rfl
@[go_sem] theorem strV_neq (a b:List UInt8):strV .neq a b=some (.bool (!(a==b))):=rfl
@[go_sem] theorem unV_not (b:Bool):unV .not (.bool b)=some (.bool !b):=rfl
@[go_sem] theorem unV_neg (k:IntKind) (n:Int):unV .neg (.int k n)=some (.int k (k.wrap (0-n))):=rfl
def fldOf (P:Program) (t:TypeId) (f:Nat):Option (Nat × Bool × Nat) :=
 match P.underlying t with
 | some (.struct fs)=>match fs[f]? with
  | some fd=>match isAggB P fd.type,szOf P fd.type with
   | some b,some (n+1)=>if b=true∨n=0 then some (fd.offset,b,n+1) else none
   | _,_=>none
  | none=>none
 | _=>none
def partC (b:Bool) (n:Nat) (l:List V) (off:Nat):Option V :=
 if b then (if off+n≤l.length then some (.agg ((l.drop off).take n)) else none) else l[off]?
@[go_sem] theorem partC_true (n:Nat) (l:List V) (off:Nat):partC true n l off=if off+n≤l.length then some (.agg ((l.drop off).take n)) else none:=rfl
@[go_sem] theorem partC_false (n:Nat) (l:List V) (off:Nat):partC false n l off=l[off]? := rfl
theorem partV_partC {t:TypeId} {b:Bool} {n:Nat} (h1:isAggB P t=some b) (h2:szOf P t=some n) (h3:b=true∨n=1) (l:List V) (off:Nat):partV P t l off=partC b n l off:=by
 unfold partV partC
 rw [h1,h2]
 cases b with
 | true=>rfl
 | false =>
  rcases h3 with h3 | h3
  ·cases h3
  ·subst h3;rfl
def fldK (x:Option (Nat × Bool × Nat)) (a:V):Option V :=
 match x,a with
 | some (k,_,_),.ptr o g off=>some (.ptr o g (off+k))
 | some (k,b,n),.view c (.agg l)=>(partC b n l k).map (.view c)
 | _,_=>none
@[go_sem] theorem fldK_ptr (k n:Nat) (b:Bool) (o g off:Nat):fldK (some (k,b,n)) (.ptr o g off)=some (.ptr o g (off+k)):=rfl
@[go_sem] theorem fldK_view (k n:Nat) (b:Bool) (c:Col) (l:List V):fldK (some (k,b,n)) (.view c (.agg l))=(partC b n l k).map (.view c):=rfl
theorem fieldAddrV_K {t:TypeId} {f:Nat} {x:Nat × Bool × Nat} (h:fldOf P t f=some x) (a:V):fieldAddrV P t a f=fldK (some x) a:=by
 unfold fldOf at h
 unfold fieldAddrV
 split at h
 ·rename_i fs hu
  rw [hu]
  simp only
  split at h
  ·rename_i fd hf
   rw [hf]
   simp only
   split at h
   ·rename_i b n h1 h2
    split at h
    ·rename_i hc
     simp at h
     subst h
     rw [h2]
     simp only
     unfold fldK
     cases a<;>try rfl
     rename_i c v
     cases v<;>try rfl
     rename_i l
     simp only
     rw [partV_partC h1 h2 (hc.imp id (by omega))]
    ·simp at h
   ·simp at h
  ·simp at h
 ·simp at h
theorem fieldV_K {t:TypeId} {f:Nat} {k n:Nat} {b:Bool} (h:fldOf P t f=some (k,b,n)) (l:List V):fieldV P t (.agg l) f=partC b n l k:=by
 unfold fldOf at h
 unfold fieldV
 split at h
 ·rename_i fs hu
  rw [hu]
  simp only
  split at h
  ·rename_i fd hf
   rw [hf]
   simp only
   split at h
   ·rename_i b' n' h1 h2
    split at h
    ·rename_i hc
     simp at h
     obtain ⟨rfl,rfl,rfl⟩:=h
     rw [partV_partC h1 h2 (hc.imp id (by omega))]
    ·simp at h
   ·simp at h
  ·simp at h
 ·simp at h
def elemOf (P:Program) (t:TypeId):Option Nat:=match P.underlying t with | some (.slice e)=>szOf P e | _=>none
def isStr (P:Program) (t:TypeId):Bool:=match P.underlying t with | some .string=>true | _=>false
def shapeOf (P:Program) (t:TypeId):Option (Bool × Nat) :=
 match isAggB P t,szOf P t with
 | some true,some n=>some (true,n)
 | some false,some 1=>some (false,1)
 | _,_=>none
def idxK (e:Option Nat) (a i:V):Option V :=
 match e,a,i with
 | some m,.slice c _ E l,.int _ n=>if m=E∧0≤n then (l[n.toNat]?).map (.view c) else none
 | some m,.msl o g off len E,.int _ n=>if m=E∧0≤n∧n<len then some (.ptr o g (off+n.toNat * E)) else none
 | _,_,_=>none
theorem indexAddrV_K {t:TypeId} {m:Nat} (h:elemOf P t=some m) (a i:V):indexAddrV P t a i=idxK (some m) a i:=by
 unfold elemOf at h
 unfold indexAddrV idxK
 split at h
 ·rename_i e hu
  rw [hu]
  cases i<;>try (cases a<;>rfl)
  cases a<;>try rfl
  ·simp only [h,Option.some.injEq]
  ·simp only [h,Option.some.injEq]
 ·simp at h
@[go_sem] theorem idxK_slice (m:Nat) (c:Col) (clip:Bool) (E:Nat) (l:List V) (k:IntKind) (n:Int):idxK (some m) (.slice c clip E l) (.int k n)=if m=E∧0≤n then (l[n.toNat]?).map (.view c) else none:=rfl
@[go_sem] theorem idxK_msl (m o g off len E:Nat) (k:IntKind) (n:Int):idxK (some m) (.msl o g off len E) (.int k n)=if m=E∧0≤n∧n<len then some (.ptr o g (off+n.toNat * E)) else none:=rfl
def lenK (sl:Bool) (a:V):Option V :=
 match a with
 | .nils=>if sl then some (.int .i64 0) else none
 | .slice _ _ _ l=>if sl then some (.int .i64 l.length) else none
 | .msl _ _ _ len _=>if sl then some (.int .i64 len) else none
 | .str s=>if sl then none else some (.int .i64 s.length)
 | _=>none
theorem lenV_slice {t:TypeId} {m:Nat} (h:elemOf P t=some m) (a:V):lenV P t a=lenK true a:=by
 unfold elemOf at h
 unfold lenV lenK
 split at h
 ·rename_i e hu
  rw [hu]
  cases a<;>rfl
 ·simp at h
theorem lenV_str {t:TypeId} (h:isStr P t=true) (a:V):lenV P t a=lenK false a:=by
 unfold isStr at h
 unfold lenV lenK
 split at h
 ·rename_i hu
  rw [hu]
  cases a<;>rfl
 ·simp at h
@[go_sem] theorem lenK_nils:lenK true .nils=some (.int .i64 0):=rfl
@[go_sem] theorem lenK_slice (c:Col) (clip:Bool) (E:Nat) (l:List V):lenK true (.slice c clip E l)=some (.int .i64 l.length):=rfl
@[go_sem] theorem lenK_msl (o g off len E:Nat):lenK true (.msl o g off len E)=some (.int .i64 len):=rfl
@[go_sem] theorem lenK_str (s:List UInt8):lenK false (.str s)=some (.int .i64 s.length):=rfl
def loadK (x:Option (Bool × Nat)) (ob:AObj) (a:V):Option V :=
 match x,a with
 | some (b,n),.ptr _ g off=>match ob with
  | .cells _ g' _ cs=>if g=g' then partC b n cs off else none
  | _=>none
 | some (b,n),.view _ v=>match v,b with
  | .agg l,true=>if n=l.length then some (.agg l) else none
  | .agg _,false=>none
  | .top,_=>none
  | .tuple _,_=>none
  | _,true=>none
  | v,false=>some v
 | _,_=>none
def obOf (H:Heap) (a:V):AObj:=match a with | .ptr o _ _=>H o | _ => .dead
theorem readV_K {t:TypeId} {b:Bool} {n:Nat} (h:shapeOf P t=some (b,n)) (H:Heap) (a:V):readV P H t a=loadK (some (b,n)) (obOf H a) a:=by
 unfold shapeOf at h
 have hh:isAggB P t=some b∧szOf P t=some n∧(b=true∨n=1):=by
  split at h<;>simp at h<;>obtain ⟨rfl,rfl⟩:=h<;>rename_i h1 h2
  ·exact ⟨h1,h2,.inl rfl⟩
  ·exact ⟨h1,h2,.inr rfl⟩
 obtain ⟨h1,h2,h3⟩:=hh
 unfold readV
 cases a<;>try (simp [viewLoad,loadK];done)
 ·rename_i c v
  simp only [viewLoad,loadK,h1,h2]
  cases b<;>cases v<;>simp
 ·rename_i o g off
  simp only [loadK,obOf]
  cases H o with
  | dead=>rfl
  | mp=>rfl
  | cells c g' fz cs =>
   simp only
   rw [partV_partC h1 h2 h3]
@[go_sem] theorem obOf_ptr (H:Heap) (o g off:Nat):obOf H (.ptr o g off)=H o:=rfl
@[go_sem] theorem loadK_ptr (b:Bool) (n o g off:Nat) (c:Col) (g' fz:Nat) (cs:List V):loadK (some (b,n)) (.cells c g' fz cs) (.ptr o g off)=if g=g' then partC b n cs off else none:=rfl
@[go_sem] theorem loadK_agg (n:Nat) (ob:AObj) (c:Col) (l:List V):loadK (some (true,n)) ob (.view c (.agg l))=if n=l.length then some (.agg l) else none:=rfl
@[go_sem] theorem loadK_int (n:Nat) (ob:AObj) (c:Col) (k:IntKind) (i:Int):loadK (some (false,n)) ob (.view c (.int k i))=some (.int k i):=rfl
@[go_sem] theorem loadK_str (n:Nat) (ob:AObj) (c:Col) (s:List UInt8):loadK (some (false,n)) ob (.view c (.str s))=some (.str s):=rfl
def storeK (sz:Option Nat) (H:Heap) (ob:AObj) (a v:V):Option Heap :=
 match a,ob with
 | .ptr o g off,.cells c g' fz cs=>if g=g'∧v.solid=true∧sz=some v.cells.length∧fz≤off∧off+v.cells.length≤cs.length then some (upd H o (.cells c g fz (setAt cs off v.cells))) else none
 | _,_=>none
@[go_sem] theorem storeH_K (H:Heap) (t:TypeId) (a v:V):storeH P H t a v=storeK (szOf P t) H (obOf H a) a v:=by
 unfold storeH storeK
 cases a<;>try rfl
 rename_i o g off
 simp only [obOf]
 cases H o<;>rfl
@[go_sem] theorem storeK_ptr (sz:Option Nat) (H:Heap) (o g off:Nat) (c:Col) (g' fz:Nat) (cs:List V) (v:V):storeK sz H (.cells c g' fz cs) (.ptr o g off) v =
  if g=g'∧v.solid=true∧sz=some v.cells.length∧fz≤off∧off+v.cells.length≤cs.length then some (upd H o (.cells c g fz (setAt cs off v.cells))) else none:=rfl
@[go_sem] theorem setAt_nil (cs:List V) (off:Nat):setAt cs off []=cs:=rfl
@[go_sem] theorem setAt_cons (cs:List V) (off:Nat) (v:V) (r:List V):setAt cs off (v::r)=setAt (cs.set off v) (off+1) r:=rfl
section
@[go_sem] theorem cells_agg (l:List V):(V.agg l).cells=l:=rfl
@[go_sem] theorem cells_int (k:IntKind) (n:Int):(V.int k n).cells=[.int k n]:=rfl
@[go_sem] theorem cells_bool (b:Bool):(V.bool b).cells=[.bool b]:=rfl
@[go_sem] theorem cells_str (s:List UInt8):(V.str s).cells=[.str s]:=rfl
@[go_sem] theorem cells_func (fn:Fn) (a b:List V):(V.func fn a b).cells=[.func fn a b]:=rfl
@[go_sem] theorem solid_agg (l:List V):(V.agg l).solid=true:=rfl
@[go_sem] theorem solid_int (k:IntKind) (n:Int):(V.int k n).solid=true:=rfl
@[go_sem] theorem solid_bool (b:Bool):(V.bool b).solid=true:=rfl
@[go_sem] theorem solid_str (s:List UInt8):(V.str s).solid=true:=rfl
@[go_sem] theorem solid_func (fn:Fn) (a b:List V):(V.func fn a b).solid=true:=rfl
@[go_sem] theorem solidC_K (v:V):solidC v=if v.solid then some v.cells else none:=rfl
@[go_sem] theorem repV_zero (z:List V):repV 0 z=[]:=rfl
@[go_sem] theorem repV_succ (n:Nat) (z:List V):repV (n+1) z=z++repV n z:=rfl
end
section
variable (P) (t:TypeId)
end
def bsK (m:Nat) (z:List V) (len:Nat) (parts:List (Nat × V)):Option (Nat × Nat × List V) :=
 if len * m≤16777216 then (fillV (fun i=>some (i * m,m)) (repV len z) parts).map fun cs=>(m,len,cs) else none
theorem bsCells_K {P:Program} {t e:TypeId} {m:Nat} {z:List V} (h1:P.underlying t=some (.slice e)) (h2:szOf P e=some m) (h3:zeroC P e=some z) (h4:z.length=m) (len:Nat) (parts:List (Nat × V)) :
  bsCells P t len parts=bsK m z len parts:=by
 unfold bsCells bsK
 simp only [h1,h2,h3,h4,true_and]
def mulP (m:Nat):Nat→Option (Nat × Nat):=fun i=>some (i * m,m)
def tblP (tbl:List (Nat × Nat)):Nat→Option (Nat × Nat):=fun i=>tbl[i]?
@[go_sem] theorem bsK_lit (m:Nat) (z:List V) (len:Nat) (parts:List (Nat × V)):bsK m z len parts=if len * m≤16777216 then (fillV (mulP m) (repV len z) parts).map fun cs=>(m,len,cs) else none:=rfl
@[go_sem] theorem fillV_nil (p:Nat→Option (Nat × Nat)) (cells:List V):fillV p cells []=some cells:=rfl
@[go_sem] theorem fillV_mul (m:Nat) (cells:List V) (i:Nat) (v:V) (rest:List (Nat × V)):fillV (mulP m) cells ((i,v)::rest) =
  if v.solid=true∧v.cells.length=m∧i * m+m≤cells.length then fillV (mulP m) (setAt cells (i * m) v.cells) rest else none:=rfl
def fillT (tbl:List (Nat × Nat)) (p:Option (Nat × Nat)) (cells:List V) (v:V) (rest:List (Nat × V)):Option (List V) :=
 match p with
 | none=>none
 | some (off,size)=>if v.solid=true∧v.cells.length=size∧off+size≤cells.length then fillV (tblP tbl) (setAt cells off v.cells) rest else none
@[go_sem] theorem fillV_tbl (tbl:List (Nat × Nat)) (cells:List V) (i:Nat) (v:V) (rest:List (Nat × V)):fillV (tblP tbl) cells ((i,v)::rest)=fillT tbl (tbl[i]?) cells v rest:=rfl
@[go_sem] theorem fillT_some (tbl:List (Nat × Nat)) (off size:Nat) (cells:List V) (v:V) (rest:List (Nat × V)):fillT tbl (some (off,size)) cells v rest =
  if v.solid=true∧v.cells.length=size∧off+size≤cells.length then fillV (tblP tbl) (setAt cells off v.cells) rest else none:=rfl
def tblOf (P:Program) (t:TypeId):Option (List (Nat × Nat)) :=
 match P.underlying t with
 | some (.struct fs)=>fs.toList.mapM fun f=>(szOf P f.type).map fun n=>(f.offset,n)
 | _=>none
theorem mapM_get {α β : Type} {f : α → Option β}:∀ {l:List α} {r:List β},l.mapM f=some r→(l.all fun x=>(f x).isSome)=true∧∀ i:Nat,r[i]? = (l[i]?).bind f
 | [],r,h=>by
  simp at h
  subst h
  exact ⟨rfl,fun i=>by simp⟩
 | x::l,r,h=>by
  simp only [List.mapM_cons,Option.bind_eq_bind,Option.bind_eq_some_iff,Option.pure_def,Option.some.injEq] at h
  obtain ⟨y,hy,ys,hys,rfl⟩:=h
  obtain ⟨h1,h2⟩:=mapM_get hys
  refine ⟨by simp [hy];simpa using h1,fun i=>?_⟩
  cases i with
  | zero=>simp [hy]
  | succ i=>simpa using h2 i
theorem buildV_K {P:Program} {t:TypeId} {tbl:List (Nat × Nat)} {z:List V} (h1:tblOf P t=some tbl) (h2:zeroV P t=some (.agg z)) (parts:List (Nat × V)) :
  buildV P t parts=(fillV (tblP tbl) z parts).map .agg:=by
 unfold tblOf at h1
 cases hu:P.underlying t with
 | none=>rw [hu] at h1;cases h1
 | some k =>
  rw [hu] at h1
  cases k<;>simp only [reduceCtorEq] at h1
  rename_i fs
  obtain ⟨h3,h4⟩:=mapM_get h1
  unfold buildV
  rw [hu,h2]
  have h5:(fs.toList.all fun f=>(szOf P f.type).isSome)=true:=by simpa using h3
  simp only [h5,Bool.true_and]
  have e:(fun i=>(fs[i]?).bind fun f=>(szOf P f.type).map fun n=>(f.offset,n))=tblP tbl:=by
   funext i
   have:=h4 i
   unfold tblP
   rw [this]
   simp
  rw [e]
  rfl
def slJ (i j:Option Nat) (f:Nat→Nat→Option V):Option V:=match i,j with | some i,some j=>f i j | _,_=>none
@[go_sem] theorem slJ_some (i j:Nat) (f:Nat→Nat→Option V):slJ (some i) (some j) f=f i j:=rfl
@[go_sem] theorem boundV_none (d:Nat):boundV d none=some d:=rfl
@[go_sem] theorem boundV_int (d:Nat) (k:IntKind) (n:Int):boundV d (some (.int k n))=if 0≤n then some n.toNat else none:=rfl
def slK (m:Nat) (a:V) (lo hi:Option V):Option V :=
 match a with
 | .slice c clip E l=>slJ (boundV 0 lo) (boundV l.length hi) fun i j=>if m=E∧i≤j∧j≤l.length then some (.slice c (clip && j==l.length) E ((l.drop i).take (j-i))) else none
 | .msl o g off len E=>slJ (boundV 0 lo) (boundV len hi) fun i j =>
   if m=E∧i≤j∧j≤len then some (if i=0 then .msl o g off j E else if i<j then .msl o g (off+i * E) (j-i) E else .slice .any false E []) else none
 | .nils=>slJ (boundV 0 lo) (boundV 0 hi) fun i j=>if i=0∧j=0 then some .nils else none
 | _=>none
theorem sliceV_K {t:TypeId} {m:Nat} (h:elemOf P t=some m) (a:V) (lo hi:Option V):sliceV P t a lo hi none=slK m a lo hi:=by
 unfold elemOf at h
 unfold sliceV slK
 split at h
 ·rename_i e hu
  rw [hu]
  cases a<;>try rfl
  ·simp only [h,Option.isSome_some,if_true]
   cases h1:boundV 0 lo with
   | none=>rfl
   | some i =>
    cases h2:boundV 0 hi with
    | none=>cases i<;>rfl
    | some j =>
     simp only [boundV_none,slJ_some]
     cases i with
     | zero=>cases j<;>rfl
     | succ i=>rw [if_neg (by simp)];rfl
  ·rename_i c clip E l
   simp only [h,Option.some.injEq]
   cases boundV 0 lo with
   | none=>rfl
   | some i =>
    cases boundV l.length hi with
    | none=>rfl
    | some j=>rfl
  ·rename_i o g off len E
   simp only [h,Option.some.injEq]
   cases boundV 0 lo with
   | none=>rfl
   | some i =>
    cases boundV len hi with
    | none=>rfl
    | some j=>rfl
 ·simp at h
@[go_sem] theorem slK_msl (m o g off len E:Nat) (lo hi:Option V):slK m (.msl o g off len E) lo hi =
  slJ (boundV 0 lo) (boundV len hi) fun i j=>if m=E∧i≤j∧j≤len then some (if i=0 then .msl o g off j E else if i<j then .msl o g (off+i * E) (j-i) E else .slice .any false E []) else none:=rfl
@[go_sem] theorem slK_nils (m:Nat) (lo hi:Option V):slK m .nils lo hi=slJ (boundV 0 lo) (boundV 0 hi) fun i j=>if i=0∧j=0 then some .nils else none:=rfl
def msK (E bytes:Nat) (z:List V) (a b:V):Option (Nat × Nat × List V) :=
 match a,b with
 | .int _ n,.int _ m=>if 0≤n∧n≤m∧m≤4611686018427387904∧bytes * m≤281474976710656 then some (E,n.toNat,repV m.toNat z) else none
 | _,_=>none
theorem msCells_K {t e:TypeId} {E bytes:Nat} {z:List V} (hu:P.underlying t=some (.slice e)) (h1:szOf P e=some E) (h2:bytesV P e=some bytes) (h3:zeroC P e=some z) (h4:z.length=E) (a b:V) :
  msCells P t a b=msK E bytes z a b:=by
 unfold msCells msK
 rw [hu]
 cases a<;>try rfl
 cases b<;>try rfl
 simp only [h1,h2,h3,h4,true_and]
@[go_sem] theorem contS_ms {E:Ent} {ops:Array Oper} {Q:AS→Prop} {rest:List Oper} {τ : Nat→V} {H:Heap} (e m bytes:Nat) (z:List V) (k1 k2:IntKind) (n c:Int) :
  contS P E ops Q rest e τ H (msK m bytes z (.int k1 n) (.int k2 c)) =
   ((0≤n∧n≤c∧c≤4611686018427387904∧bytes * c≤281474976710656)∧∀ g,opsA P E ops Q rest ⟨upd τ e (.msl (E.q+e) g 0 n.toNat m),upd H (E.q+e) (.cells .new g 0 (repV c.toNat z))⟩):=by
 have e1:msK m bytes z (.int k1 n) (.int k2 c)=if 0≤n∧n≤c∧c≤4611686018427387904∧bytes * c≤281474976710656 then some (m,n.toNat,repV c.toNat z) else none:=rfl
 rw [e1]
 by_cases h:0≤n∧n≤c∧c≤4611686018427387904∧bytes * c≤281474976710656
 ·rw [if_pos h,contS_some]
  exact (propext (and_iff_right h)).symm
 ·rw [if_neg h]
  exact propext ⟨False.elim,fun hh=>h hh.1⟩
theorem conv_int {s d:TypeId} {kd:IntKind} (h1:(P.underlying s).isSome=true) (h2:P.underlying d=some (.int kd)) (k:IntKind) (n:Int):convV P s d (.int k n)=some (.int kd (kd.wrap n)):=by
 unfold convV
 rw [h2]
 cases h:P.underlying s with
 | none=>rw [h] at h1;cases h1
 | some t=>rfl
end Go.Hs
end
