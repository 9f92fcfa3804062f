/- Part 15 of a proof; no condition. -/
import Derived.Test.YtegjlbpnpiigkaaGreatDoorPart14
set_option linter.unusedSimpArgs false
set_option linter.unusedVariables false
section
namespace Go.Hs
section
variable {P:Program} {E:Ent}
inductive Cls where
 | P | R | L | B | A | W
 deriving DecidableEq
inductive Md where
 | pure | lend | any | keep
 deriving DecidableEq
abbrev Kps:=List (TypeId × V × V)
def KpH (P:Program) (kp:Kps) (H:Heap):Prop:=∀ p∈kp,Z8b P H p.1 p.2.1=some p.2.2
theorem KpH.new {kp:Kps} {H:Heap} (h:KpH P kp H) {d:Nat} (hd:H d = .dead) (x:AObj):KpH P kp (upd H d x):=by
 intro p hp;have h0:=h p hp;unfold Z8b at h0 ⊢
 split at h0
 ·rename_i o' g off hy
  split at h0
  ·rename_i c1 g1 fz cs ho
   have hne:o'≠d:=fun e=>by rw [e,hd] at ho;cases ho
   rw [Zfb _ _ hne,ho];exact h0
  ·simp at h0
 ·exact h0
def Zrw (bor:Md):Cls:=match bor with | .lend => .P | .keep => .L | _ => .R
def Zqa (bor:Md) (o:Oper):Cls :=
 match o.op with
 | .move _ | .assign _ | .pick .. | .binOp .. | .unOp .. | .convert .. | .extract .. | .field .. | .build .. | .fieldAddr .. | .indexAddr .. | .index .. | .slice .. | .makeFunc .. | .makeInterface .. | .nilCheck _ | .lookup .. | .typeAssert .. => .P
 | .load .. => Zrw bor
 | .alloc _ | .box .. | .buildSlice .. | .makeSlice .. => .A
 | .call { callee := .value _,.. }=>match bor with | .pure => .P | .lend => .B | _ => .W
 | .call { callee := .builtin .len,.. } => .P
 | .call { callee := .builtin .max,.. } => .P
 | .call { callee := .builtin .min,.. } => .P
 | _ => .W
def Zpk:Cls→Cls→Bool
 | .P,_=>true
 | .L,_=>true
 | .R,.W=>false
 | .R,_=>true
 | .B,.P | .B,.R | .B,.L | .B,.B=>true
 | .A,.P | .A,.R | .A,.L | .A,.A=>true
 | _,_=>false
def Zep (P:Program) (G:Nat→V) (f:FuncId) (args:List V) (v:V):Prop :=
 Zha P f=true∧Spec P G f (args.map (V.recol Col.ent)) Zl (fun v' _=>v'.recol Col.bk=v)
def BorC (P:Program) (G:Nat→V) (f:FuncId) (args:List V) (H:Heap) (v:V):Prop :=
 Zha P f=true∧∃ args':List V,args'.length=args.length∧(∀ i (h1:i<args.length) (h2:i<args'.length),Rd H args[i] args'[i])∧Spec P G f args' Zl (fun v' _=>v'.Fl∧v'=v)
def Zmd (P:Program) (E:Ent) (kp:Kps) (bor:Md) (v:V) (s:AS) (o:Oper) (K:V→Heap→Prop):Prop :=
 match Zqa bor o with
 | .A=>(match o.dst with | some d=>s.H (E.q+d) = .dead | none=>False)∧Z1a P E s o K
 | .W=>Z1a P E s o fun u H'=>KpH P kp H'∧K u H'
 | .R=>Z1a P E s o K
 | .L=>match o.op with
  | .load t x=>((t,s.ev E x,v)∈kp∧KpH P kp s.H)∧K v s.H
  | _=>False
 | .P=>match o.op with
  | .call { callee := .value f,args,.. }=>match s.ev E f with
   | .func (.func fid) first cap=>Zep P E.G fid (first++args.toList.map (s.ev E)++cap) v∧K v s.H
   | _=>False
  | .load t x=>match Zqc P t (s.ev E x) with
   | some u=>K u s.H
   | none=>False
  | _=>Z1a P E s o K
 | .B=>match o.op with
  | .call { callee := .value f,args,.. }=>match s.ev E f with
   | .func (.func fid) first cap=>BorC P E.G fid (first++args.toList.map (s.ev E)++cap) s.H v∧K v s.H
   | _=>False
  | _=>False
theorem Zzu {H:Heap} {d E' bytes:Nat} {a b:V} {K K':V→Heap→Prop} (hk:∀ v H,K v H→K' v H) (h:Znj H d E' bytes a b K):Znj H d E' bytes a b K':=by
 unfold Znj at *
 split at h
 ·exact h.elim
 ·split at h
  ·exact ⟨h.1,fun e=>hk _ _ (h.2.1 e),fun e g=>hk _ _ (h.2.2 e g)⟩
  ·exact ⟨h.1,h.2.1,fun e=>hk _ _ (h.2.2.1 e),fun e=>⟨(h.2.2.2 e).1,fun g=>hk _ _ ((h.2.2.2 e).2 g)⟩⟩
  ·refine ⟨h.1,h.2.1,?_⟩
   have h3:=h.2.2
   split at h3
   ·exact ⟨h3.1,h3.2.1,h3.2.2.1,fun g=>hk _ _ (h3.2.2.2 g)⟩
   ·exact h3.elim
  ·exact h.elim
theorem Z0b {s:AS} {o:Oper} {K K':V→Heap→Prop} (hk:∀ v H,K v H→K' v H) (h:Z1a P E s o K):Z1a P E s o K':=by
 have plain:(match opV P (s.ev E) o with | some v=>K v s.H | none=>False)→(match opV P (s.ev E) o with | some v=>K' v s.H | none=>False):=by
  intro h
  cases hv:opV P (s.ev E) o with
  | none=>rw [hv] at h;exact h
  | some v=>rw [hv] at h;exact hk _ _ h
 obtain ⟨dst,op,type,pos,after,guard⟩:=o;cases op
 case load t x =>
  simp only [Z1a] at *
  split at h
  ·exact hk _ _ h
  ·exact h.elim
 case store t p x =>
  simp only [Z1a] at *
  split at h
  ·exact hk _ _ h
  ·exact h.elim
 case alloc t =>
  simp only [Z1a] at *
  split at h
  ·exact ⟨h.1,fun g=>hk _ _ (h.2 g)⟩
  ·exact h.elim
 case box t x =>
  simp only [Z1a] at *
  split at h
  ·exact ⟨h.1,fun g=>hk _ _ (h.2 g)⟩
  ·exact h.elim
 case buildSlice t len parts =>
  simp only [Z1a] at *
  split at h
  ·unfold Zhd at *
   split at h
   ·split at h
    ·refine ⟨h.1,h.2.1,h.2.2.1,?_⟩
     have h3:=h.2.2.2
     split at h3
     ·exact fun g=>hk _ _ (h3 g)
     ·exact h3.elim
    ·exact h.elim
   ·exact h.elim
  ·exact h.elim
 case makeSlice t l c =>
  simp only [Z1a] at *
  split at h
  ·unfold Z2d at *
   split at h
   ·split at h
    ·exact ⟨h.1,h.2.1,h.2.2.1,h.2.2.2.1,h.2.2.2.2.1,h.2.2.2.2.2.1,fun g=>hk _ _ (h.2.2.2.2.2.2 g)⟩
    ·exact h.elim
   ·exact h.elim
  ·exact h.elim
 case call c =>
  obtain ⟨callee,args,ats⟩:=c;cases callee
  case value f =>
   simp only [Z1a] at *
   split at h
   ·exact h.mono hk
   ·exact h.elim
  case invoke r m=>exact plain h
  case builtin b =>
   cases b
   case append =>
    simp only [Z1a] at *
    split at h
    ·unfold Zwl at *
     split at h
     ·split at h
      ·exact h.elim
      ·split at h
       ·exact ⟨h.1,h.2.1,Zzu hk h.2.2⟩
       ·exact h.elim
      ·exact h.elim
     ·exact h.elim
    ·exact h.elim
   all_goals exact plain h
 case panic x=>exact h
 case mapUpdate t m k x=>exact Zcm hk h
 case insert t m k x=>exact Zcm hk h
 case makeMap t r =>
  cases r with
  | some r=>exact plain h
  | none =>
   simp only [Z1a] at *
   split at h
   ·exact fun b=>hk _ _ (h b)
   ·exact h
 all_goals exact plain h
theorem Z1z {H:Heap} {t:TypeId} {a u:V} (h:Zqc P t a=some u):Z8b P H t a=some u:=by
 unfold Z8b
 cases a<;>first | exact h | (simp [Zqc] at h)
theorem Zsz (hG:GOk E.G) {kp:Kps} {bor:Md} {v:V} {s:AS} {o:Oper} {K:V→Heap→Prop} (h:Zmd P E kp bor v s o K):Z1a P E s o K:=by
 obtain ⟨dst,op,type,pos,after,guard⟩:=o;unfold Zmd at h
 split at h
 ·exact h.2
 ·exact Z0b (fun _ _ hh=>hh.2) h
 ·exact h
 ·split at h
  ·rename_i t x hop
   simp only at hop;subst hop;simp only [Z1a];rw [h.1.2 _ h.1.1];exact h.2
  ·exact h.elim
 ·split at h
  ·rename_i f args ats hop
   simp only at hop;subst hop;simp only [Z1a]
   split at h
   ·rename_i fid first cap hf
    rw [hf];obtain ⟨⟨hen,hs⟩,hk⟩:=h;exact CallP.of (CallA.pure hG hen (hs.mono fun v' _ e=>by rw [e];exact hk))
   ·exact h.elim
  ·rename_i t x hop
   simp only at hop;subst hop;simp only [Z1a]
   split at h
   ·rename_i u hu
    rw [Z1z hu];exact h
   ·exact h.elim
  ·exact h
 ·split at h
  ·rename_i f args ats hop
   simp only at hop;subst hop;simp only [Z1a]
   split at h
   ·rename_i fid first cap hf
    rw [hf];obtain ⟨⟨hen,args',hl,hr,hs⟩,hk⟩:=h;exact CallP.of (Zlm hG hen hl hr (hs.mono fun v' _ ⟨h1,h2⟩=>⟨h1,by rw [h2];exact hk⟩))
   ·exact h.elim
  ·exact h.elim
theorem Z9j {ρ ρ':Operand→V} {o:Oper} (h:∀ x∈o.op.operands,ρ x = ρ' x):opV P ρ o=opV P ρ' o:=by
 obtain ⟨dst,op,type,pos,after,guard⟩:=o;have hl:∀ (l:Array Operand),(∀ x∈l,ρ x = ρ' x)→l.toList.map ρ = l.toList.map ρ':=fun l hl=>List.map_congr_left (fun x hx=>hl x (by simpa using hx))
 cases op<;>simp only [Op.operands] at h<;>simp only [opV]
 case move x=>rw [h x (by simp)]
 case assign x=>rw [h x (by simp)]
 case pick c a b=>rw [h c (by simp),h a (by simp),h b (by simp)]
 case binOp op t x y yt=>rw [h x (by simp),h y (by simp)]
 case unOp op t x=>rw [h x (by simp)]
 case convert s d x=>rw [h x (by simp)]
 case extract t i=>rw [h t (by simp)]
 case field t x f=>rw [h x (by simp)]
 case build t parts =>
  congr 1
  apply List.map_congr_left;intro p hp;rw [h p.2 (by simp;exact ⟨p.1,by simpa using hp⟩)]
 case fieldAddr t x f=>rw [h x (by simp)]
 case indexAddr t x i=>rw [h x (by simp),h i (by simp)]
 case index t x i=>rw [h x (by simp),h i (by simp)]
 case slice t x lo hi mx =>
  have ho:∀ q:Option Operand,(∀ y∈q,ρ y = ρ' y)→q.map ρ = q.map ρ':=fun q hq=>by cases q<;>simp at hq ⊢;exact hq
  rw [h x (by simp),ho lo (fun y hy=>h y (by simp;exact .inr (.inl hy))),ho hi (fun y hy=>h y (by simp;exact .inr (.inr (.inl hy)))),ho mx (fun y hy=>h y (by simp;exact .inr (.inr (.inr hy))))]
 case makeFunc fn first cap=>rw [hl first (fun x hx=>h x (by simp [hx])),hl cap (fun x hx=>h x (by simp [hx]))]
 case makeInterface t x=>rw [h x (by simp)]
 case nilCheck x=>rw [h x (by simp)]
 case load t x=>rw [h x (by simp)]
 case lookup t m x ok=>rw [h m (by simp),h x (by simp)]
 case typeAssert x t T ok=>rw [h x (by simp)]
 case call c =>
  obtain ⟨callee,args,ats⟩:=c
  cases callee<;>try rfl
  rename_i b
  cases b<;>try rfl
  case max=>exact congrArg Zm5 (hl args fun x hx=>h x (by simpa [Call.operands] using hx))
  case min=>exact congrArg minL (hl args fun x hx=>h x (by simpa [Call.operands] using hx))
  simp only [Call.operands] at h;obtain ⟨l⟩:=args
  cases l with
  | nil=>rfl
  | cons x r =>
   cases r with
   | nil =>
    have:=h x (by simp)
    show (match [x],ats[0]? with | [x],some t=>Zm1 P t (ρ x) | _,_=>none)=(match [x],ats[0]? with | [x],some t=>Zm1 P t (ρ' x) | _,_=>none)
    cases ats[0]? with
    | none=>rfl
    | some t=>simp only [this]
   | cons y r=>rfl
theorem Zxv {s s':AS} {o:Oper} {K:V→Heap→Prop} (hH:s.H=s'.H) (h:∀ x∈o.op.operands,s.ev E x=s'.ev E x):Z1a P E s o K=Z1a P E s' o K:=by
 have hop:=Z9j (P:=P) h;obtain ⟨dst,op,type,pos,after,guard⟩:=o
 cases op<;>simp only [Op.operands] at h<;>simp only [Z1a]<;>try (rw [hop,hH])
 case load t x=>rw [h x (by simp),hH]
 case store t p x=>rw [h p (by simp),h x (by simp),hH]
 case alloc t=>rw [hH]
 case box t x=>rw [h x (by simp),hH]
 case buildSlice t len parts =>
  rw [hH]
  have:(parts.toList.map fun p=>(p.1,s.ev E p.2))=(parts.toList.map fun p=>(p.1,s'.ev E p.2)):=by
   apply List.map_congr_left;intro p hp;rw [h p.2 (by simp;exact ⟨p.1,by simpa using hp⟩)]
  rw [this]
 case makeSlice t l c=>rw [h l (by simp),h c (by simp),hH]
 case panic x=>rw [h x (by simp),hH]
 case mapUpdate t m k x=>rw [h m (by simp),h k (by simp),h x (by simp),hH]
 case insert t m k x=>rw [h m (by simp),h k (by simp),h x (by simp),hH]
 case makeMap t r =>
  cases r with
  | some r=>simp only [Z1a]<;>(try rw [hop,hH])
  | none=>simp only [Z1a]<;>(try rw [hH])
 case call c =>
  obtain ⟨callee,args,ats⟩:=c;simp only [Call.operands] at h;cases callee
  case value f =>
   have h1:s.ev E f=s'.ev E f:=h f (by simp);have h2:args.toList.map (s.ev E)=args.toList.map (s'.ev E):=List.map_congr_left (fun x hx=>h x (by simp;exact .inr (by simpa using hx)));simp only [h1,h2,hH]
  case invoke r m=>simp only [hop,hH]
  case builtin b =>
   cases b
   case append =>
    simp only
    split
    ·rename_i x y d hargs
     have:args = #[x,y]:=by cases args;simp at hargs;rw [hargs]
     subst this;rw [h x (by simp),h y (by simp)]
     try rw [hH]
    ·rfl
   all_goals simp only [hop,hH]
def stD (P:Program) (E:Ent) (kp:Kps) (ops:Array Oper) (bor:Md) (v:V) (o:Oper) (K:AS→Prop) (s:AS):Prop :=
 match Zga ops s.τ o with
 | some true=>Zmd P E kp bor v s o fun u H'=>K (AS.put { s with H:=H' } o.dst u)
 | some false=>K (s.put o.dst (.tuple []))
 | none=>False
theorem Zrz {kp:Kps} {bor:Md} {v:V} {s:AS} {o:Oper} {K K':V→Heap→Prop} (hk:∀ v H,K v H→K' v H) (h:Zmd P E kp bor v s o K):Zmd P E kp bor v s o K':=by
 unfold Zmd at *
 split at h
 ·exact ⟨h.1,Z0b hk h.2⟩
 ·exact Z0b (fun _ _ hh=>⟨hh.1,hk _ _ hh.2⟩) h
 ·exact Z0b hk h
 ·split at h
  ·exact ⟨h.1,hk _ _ h.2⟩
  ·exact h.elim
 ·split at h
  ·split at h
   ·exact ⟨h.1,hk _ _ h.2⟩
   ·exact h.elim
  ·split at h
   ·exact hk _ _ h
   ·exact h.elim
  ·exact Z0b hk h
 ·split at h
  ·split at h
   ·exact ⟨h.1,hk _ _ h.2⟩
   ·exact h.elim
  ·exact h.elim
theorem Zyj {kp:Kps} {ops:Array Oper} {bor:Md} {v:V} {o:Oper} {K K':AS→Prop} {s:AS} (hk:∀ s,K s→K' s) (h:stD P E kp ops bor v o K s):stD P E kp ops bor v o K' s:=by
 unfold stD at *
 split at h
 ·exact Zrz (fun _ _=>hk _) h
 ·exact hk _ h
 ·exact h.elim
theorem Zsj {ops:Array Oper} {τ τ':Nat→V} {o:Oper} (h:∀ d,(∃ g b,o.guard=some (g,b)∧(ops[g]?).bind (·.dst)=some d) → τ d = τ' d):Zga ops τ o=Zga ops τ' o:=by
 unfold Zga
 cases hg:o.guard with
 | none=>rfl
 | some p =>
  obtain ⟨g,b⟩:=p;simp only
  cases hd:(ops[g]?).bind (·.dst) with
  | none=>rfl
  | some d=>simp only [h d ⟨g,b,hg,hd⟩]
theorem Zdv {s:AS} {dst:Option Nat} {v:V} {x:Operand} (h:∀ d,dst=some d→x ≠ .tmp d):(s.put dst v).ev E x=s.ev E x:=by
 cases dst with
 | none=>rfl
 | some d =>
  cases x with
  | tmp t =>
   have:t≠d:=fun e=>h d rfl (by rw [e]);simp [AS.put,AS.ev,upd,this]
  | _=>rfl
theorem Zcd (s:AS) (dst:Option Nat) (v:V):(s.put dst v).H=s.H:=by cases dst<;>rfl
theorem Zyx {α : Type} (f:Nat → α) {a b:Nat} (x y : α) (h:a≠b):upd (upd f a x) b y=upd (upd f b y) a x:=by
 funext n
 simp only [upd]
 by_cases h1:n=a<;>by_cases h2:n=b<;>simp [h1,h2]
 ·omega
 ·intro e;exact absurd e h
 ·intro e;exact absurd e.symm h
theorem Zwx (s:AS) {x y:Option Nat} (v u:V) (h:∀ d,x=some d→y≠some d):(s.put x v).put y u=(s.put y u).put x v:=by
 cases x with
 | none=>rfl
 | some a =>
  cases y with
  | none=>rfl
  | some b =>
   have:a≠b:=fun e=>h a rfl (by rw [e]);simp only [AS.put];rw [Zyx _ _ _ this]
theorem Z8g (s:AS) (x:Option Nat) (v:V) (H:Heap):({ (s.put x v) with H:=H }:AS)=AS.put { s with H:=H } x v:=by cases x<;>rfl
theorem Zbz {ops:Array Oper} {oi oj:Oper} (h:oi.apart ops oj=true) :
  (∀ s:AS,∀ v,(∀ x∈oj.op.operands,(s.put oi.dst v).ev E x=s.ev E x)∧Zga ops (s.put oi.dst v).τ oj=Zga ops s.τ oj) ∧
  (∀ s:AS,∀ v,(∀ x∈oi.op.operands,(s.put oj.dst v).ev E x=s.ev E x)∧Zga ops (s.put oj.dst v).τ oi=Zga ops s.τ oi) ∧
  (∀ s:AS,∀ v u,(s.put oi.dst v).put oj.dst u=(s.put oj.dst u).put oi.dst v):=by
 obtain ⟨h1,h2,h3⟩:=Oper.apart_spec h
 have look:∀ (o:Oper) (x:Operand) (d:Nat),x∈o.op.operands→x = .tmp d→d∈o.looksAt ops:=by
  intro o x d hx e;subst e;unfold Oper.looksAt;refine List.mem_append_left _ ?_;simp only [List.mem_filterMap];exact ⟨.tmp d,by simpa using hx,rfl⟩
 have lookg:∀ (o:Oper) (d:Nat),(∃ g b,o.guard=some (g,b)∧(ops[g]?).bind (·.dst)=some d)→d∈o.looksAt ops:=by
  rintro o d ⟨g,b,hg,hd⟩;unfold Oper.looksAt;refine List.mem_append_right _ ?_;simp [hg,hd]
 have put_τ : ∀ (s:AS) (x:Option Nat) (v:V) (d:Nat),(∀ e,x=some e→d≠e)→(s.put x v).τ d=s.τ d:=by
  intro s x v d he
  cases x with
  | none=>rfl
  | some e=>simp [AS.put,upd,he e rfl]
 refine ⟨fun s v=>⟨fun x hx=>Zdv fun d hd e=>h1 d hd (look oj x d hx e),Zsj fun d hd=>put_τ _ _ _ _ fun e he hde=>?_⟩,
  fun s v=>⟨fun x hx=>Zdv fun d hd e=>h3 d hd (look oi x d hx e),Zsj fun d hd=>put_τ _ _ _ _ fun e he hde=>?_⟩,fun s v u=>Zwx s v u h2⟩
 ·subst hde;exact h1 d he (lookg oj d hd)
 ·subst hde;exact h3 d he (lookg oi d hd)
def ldR (P:Program) (kp:Kps) (bor:Md) (v:V) (H:Heap) (t:TypeId) (a u:V):Prop :=
 match bor with
 | .lend=>Zqc P t a=some u
 | .keep=>((t,a,v)∈kp∧KpH P kp H)∧u=v
 | _=>Z8b P H t a=some u
def Zqv (P:Program) (E:Ent) (kp:Kps) (ops:Array Oper) (bor:Md) (v:V) (o:Oper) (s:AS) (u:V):Prop :=
 match Zga ops s.τ o with
 | some true=>match o.op with
  | .load t x=>ldR P kp bor v s.H t (s.ev E x) u
  | .call { callee := .value f,args,.. }=>match s.ev E f with
   | .func (.func fid) first cap=>u=v∧match bor with | .lend=>BorC P E.G fid (first++args.toList.map (s.ev E)++cap) s.H v | .pure=>Zep P E.G fid (first++args.toList.map (s.ev E)++cap) v | _=>False
   | _=>False
  | _=>opV P (s.ev E) o=some u
 | some false=>u = .tuple []
 | none=>False
theorem Z8k {kp:Kps} {ops:Array Oper} {bor:Md} {v:V} {o:Oper} {K:AS→Prop} {s:AS} (hc:Zqa bor o = .P∨Zqa bor o = .R∨Zqa bor o = .L∨Zqa bor o = .B) :
  stD P E kp ops bor v o K s ↔ ∃ u,Zqv P E kp ops bor v o s u∧K (s.put o.dst u):=by
 have self:∀ u,AS.put { s with H:=s.H } o.dst u=s.put o.dst u:=fun _=>rfl;unfold stD Zqv
 cases hw:Zga ops s.τ o with
 | none=>simp
 | some b =>
  cases b with
  | false=>simp
  | true =>
   simp only;obtain ⟨dst,op,type,pos,after,guard⟩:=o
   have plain:∀ (h:Z1a P E s ⟨dst,op,type,pos,after,guard⟩ (fun u H'=>K (AS.put { s with H:=H' } dst u))=(match opV P (s.ev E) ⟨dst,op,type,pos,after,guard⟩ with | some u=>K (s.put dst u) | none=>False)),
     (Z1a P E s ⟨dst,op,type,pos,after,guard⟩ (fun u H'=>K (AS.put { s with H:=H' } dst u)) ↔ ∃ u,opV P (s.ev E) ⟨dst,op,type,pos,after,guard⟩=some u∧K (s.put dst u)):=by
    intro h;rw [h]
    cases opV P (s.ev E) ⟨dst,op,type,pos,after,guard⟩<;>simp
   cases op<;>simp only [Zqa,reduceCtorEq,or_false,false_or,or_self] at hc
   case load t x =>
    cases bor with
    | lend =>
     simp only [Zmd,Zqa,Zrw,ldR]
     cases Zqc P t (s.ev E x)<;>simp
    | keep =>
     simp only [Zmd,Zqa,Zrw,ldR];exact ⟨fun h=>⟨v,⟨h.1,rfl⟩,h.2⟩,fun ⟨u,⟨h1,h2⟩,h3⟩=>⟨h1,by subst h2;exact h3⟩⟩
    | pure =>
     simp only [Zmd,Zqa,Zrw,Z1a,ldR]
     cases Z8b P s.H t (s.ev E x)<;>simp
    | any =>
     simp only [Zmd,Zqa,Zrw,Z1a,ldR]
     cases Z8b P s.H t (s.ev E x)<;>simp
   case call c =>
    obtain ⟨callee,args,ats⟩:=c;cases callee
    case value f =>
     simp only [Zmd,Zqa]
     cases bor with
     | any=>simp [Zqa] at hc
     | keep=>simp [Zqa] at hc
     | lend =>
      simp only
      split
      ·rename_i fid first cap hf
       constructor
       ·rintro ⟨h1,h2⟩;exact ⟨v,⟨rfl,h1⟩,h2⟩
       ·rintro ⟨u,⟨rfl,h1⟩,h2⟩;exact ⟨h1,h2⟩
      ·simp
     | pure =>
      simp only
      split
      ·rename_i fid first cap hf
       constructor
       ·rintro ⟨h1,h2⟩;exact ⟨v,⟨rfl,h1⟩,h2⟩
       ·rintro ⟨u,⟨rfl,h1⟩,h2⟩;exact ⟨h1,h2⟩
      ·simp
    case invoke r m=>simp only [reduceCtorEq,or_false,or_self] at hc
    case builtin b =>
     cases b<;>simp only [reduceCtorEq,or_false,false_or,or_self] at hc
     all_goals exact plain rfl
   all_goals exact plain rfl
end
end Go.Hs
end
