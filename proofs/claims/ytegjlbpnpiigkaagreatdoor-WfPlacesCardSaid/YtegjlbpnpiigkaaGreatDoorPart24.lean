/- Part 24 of a proof; no condition. -/
import Derived.Test.YtegjlbpnpiigkaaGreatDoorPart23
set_option linter.unusedSimpArgs false
set_option linter.unusedVariables false
section
namespace Go.Hs
section
variable {P:Program} {E:Ent} {kp:Kps}
def Zfl (o:Oper):Bool :=
 match o.op with
 | .alloc _ | .box .. | .buildSlice .. | .makeSlice .. => false
 | .load .. => false
 | .call { callee := .value _,.. }=>false
 | _=>true
def Zaj (o:Oper):Bool :=
 match o.op with
 | .alloc _ | .box .. | .buildSlice .. | .makeSlice .. => true
 | _=>false
def Zlz (P:Program) (E:Ent) (bor:Md) (v:V) (H:Heap) (f:V) (args:List V):Prop :=
 match f with
 | .func (.func fid) first cap=>(match bor with | .lend=>BorC P E.G fid (first++args++cap) H v | _=>Zep P E.G fid (first++args++cap) v)
 | _=>False
def mdK (m:Md) (A B:Prop):Prop:=match m with | .any=>B | .keep=>B | _=>A
@[congr] theorem mdK_congr {m m':Md} {A B:Prop} (h:m=m'):mdK m A B=mdK m' A B:=by rw [h]
@[go_sem] theorem mdK_pure (A B:Prop):mdK .pure A B=A:=rfl
@[go_sem] theorem mdK_lend (A B:Prop):mdK .lend A B=A:=rfl
@[go_sem] theorem mdK_any (A B:Prop):mdK .any A B=B:=rfl
@[go_sem] theorem Z16 (A B:Prop):mdK .keep A B=B:=rfl
def borA (T:Told) (i:Nat):Md:=T.bor i
@[go_sem] theorem borA_mk (f:Nat→V) (g:Nat→Md) (i:Nat):borA ⟨f,g⟩ i=g i:=rfl
def ldK (m:Md) (A B C:Prop):Prop:=match m with | .lend=>A | .keep=>C | _=>B
@[congr] theorem ldK_congr {m m':Md} {A B C:Prop} (h:m=m'):ldK m A B C=ldK m' A B C:=by rw [h]
@[go_sem] theorem Z66 (A B C:Prop):ldK .pure A B C=B:=rfl
@[go_sem] theorem Z76 (A B C:Prop):ldK .lend A B C=A:=rfl
@[go_sem] theorem ldK_any (A B C:Prop):ldK .any A B C=B:=rfl
@[go_sem] theorem Z86 (A B C:Prop):ldK .keep A B C=C:=rfl
def kpA (P:Program) (kp:Kps) (H:Heap) (A:Prop):Prop:=match kp with | []=>A | p::r=>(Z8b P H p.1 p.2.1=some p.2.2∧kpA P r H A)
@[go_sem] theorem kpA_nil (H:Heap) (A:Prop):kpA P [] H A=A:=rfl
@[go_sem] theorem Ze7 (p:TypeId × V × V) (r:Kps) (H:Heap) (A:Prop):kpA P (p::r) H A=(Z8b P H p.1 p.2.1=some p.2.2∧kpA P r H A):=rfl
theorem Zo3:∀ {kp:Kps} {H:Heap} {A:Prop},kpA P kp H A ↔ KpH P kp H∧A
 | [],H,A=>⟨fun h=>⟨fun p hp=>(by cases hp),h⟩,fun h=>h.2⟩
 | p::r,H,A=>by
  rw [Ze7,Zo3]
  constructor
  ·rintro ⟨h1,h2,h3⟩
   refine ⟨fun q hq=>?_,h3⟩
   rcases List.mem_cons.1 hq with rfl | hq
   ·exact h1
   ·exact h2 q hq
  ·rintro ⟨h1,h2⟩
   exact ⟨h1 p (List.mem_cons_self ..),fun q hq=>h1 q (List.mem_cons_of_mem _ hq),h2⟩
def kpQ (P:Program) (kp:Kps) (Q:AS→Prop):AS→Prop:=fun s=>kpA P kp s.H (Q s)
@[go_sem] theorem kpQ_nil (Q:AS→Prop):kpQ P [] Q=Q:=rfl
@[go_sem] theorem kpQ_cons (p:TypeId × V × V) (r:Kps) (Q:AS→Prop) (τ : Nat→V) (H:Heap):kpQ P (p::r) Q ⟨τ,H⟩=(Z8b P H p.1 p.2.1=some p.2.2∧kpA P r H (Q ⟨τ,H⟩)):=rfl
theorem Zsw {kp:Kps} {Q:AS→Prop} {s:AS} {H:Heap} {d:Option Nat} {v:V}:kpQ P kp Q (AS.put { s with H:=H } d v) ↔ KpH P kp H∧Q (AS.put { s with H:=H } d v):=by
 unfold kpQ;rw [Zcd];exact Zo3
def kpT (P:Program) (kp:Kps) (b:Bool) (Q:AS→Prop):AS→Prop:=match b with | true=>Q | false=>kpQ P kp Q
@[go_sem] theorem kpT_true (Q:AS→Prop):kpT P kp true Q=Q:=rfl
@[go_sem] theorem kpT_false (Q:AS→Prop):kpT P kp false Q=kpQ P kp Q:=rfl
def Zg7 (P:Program) (kp:Kps) (t:TypeId) (a v:V) (H:Heap) (A:Prop):Prop:=((t,a,v)∈kp∧KpH P kp H)∧A
theorem Zar (t:TypeId) (a:V):Z8b P Zl t a=Zqc P t a:=by
 unfold Z8b
 cases a<;>first | rfl | (simp [Zqc,Zl])
def Z2p (o:Oper):Bool :=
 match o.op with
 | .move _ | .assign _ | .pick .. | .binOp .. | .unOp .. | .convert .. | .extract .. | .field .. | .build .. | .fieldAddr .. | .indexAddr .. | .index .. | .slice .. | .makeFunc .. | .makeInterface .. | .nilCheck _ | .lookup .. | .typeAssert .. => true
 | .alloc _ | .box .. | .buildSlice .. | .makeSlice .. => true
 | .call { callee := .builtin .len,.. }=>true
 | .call { callee := .builtin .max,.. }=>true
 | .call { callee := .builtin .min,.. }=>true
 | _=>false
def kpB (P:Program) (kp:Kps) (b:Bool) (Q:AS→Prop) (s:AS):Prop:=match b with | true=>Q s | false=>kpQ P kp Q s
def Zdd (P:Program) (E:Ent) (kp:Kps) (ops:Array Oper) (Q:AS→Prop) (T:Told):Nat→List Oper→AS→Prop
 | _,[],s=>Q s
 | i,o::rest,s=>Zxi (Zga ops s.τ o) (Zdd P E kp ops Q T (i+1) rest (s.put o.dst (.tuple [])))
   (match o.op with
    | .call { callee := .value f,args,.. }=>mdK (T.bor i) (Zlz P E (T.bor i) (T.vs i) s.H (s.ev E f) (args.toList.map (s.ev E))∧Zdd P E kp ops Q T (i+1) rest (s.put o.dst (T.vs i)))
      (Z1a P E s o fun v H'=>kpQ P kp (Zdd P E kp ops Q T (i+1) rest) (AS.put { s with H:=H' } o.dst v))
    | .load t x=>ldK (T.bor i) (Zwt (Z8b P Zl t (s.ev E x)) fun v=>Zdd P E kp ops Q T (i+1) rest (s.put o.dst v)) (Z1a P E s o fun v H'=>Zdd P E kp ops Q T (i+1) rest (AS.put { s with H:=H' } o.dst v))
      (Zg7 P kp t (s.ev E x) (T.vs i) s.H (Zdd P E kp ops Q T (i+1) rest (s.put o.dst (T.vs i))))
    | _=>(Zaj o=true→∃ d,o.dst=some d∧s.H (E.q+d) = .dead)∧Z1a P E s o fun v H'=>kpB P kp (Z2p o) (Zdd P E kp ops Q T (i+1) rest) (AS.put { s with H:=H' } o.dst v))
theorem Zyt {ops:Array Oper} {Q:AS→Prop} {T:Told}:∀ (l:List Oper) (k:Nat) (s:AS),(∀ j,l[j]? = ops[k+j]?)→Zdd P E kp ops Q T k l s →
  Ze0 P E kp ops T Q ((List.range l.length).map (k + ·)) s
 | [],k,s,_,h=>h
 | o::rest,k,s,hl,h=>by
  have hk:ops[k]? = some o:=by have:=hl 0;simpa using this.symm
  have hl':∀ j,rest[j]? = ops[k+1+j]? := fun j=>by have:=hl (j+1);rw [show k+1+j=k+(j+1) by omega];simpa using this
  have hrange:(List.range (o::rest).length).map (k + ·)=k::(List.range rest.length).map (k+1 + ·):=by
   simp only [List.length_cons,List.range_succ_eq_map,List.map_cons,Nat.add_zero,List.map_map]
   congr 1
   apply List.map_congr_left;intro j _;simp;omega
  have ih:∀ s',Zdd P E kp ops Q T (k+1) rest s'→Ze0 P E kp ops T Q ((List.range rest.length).map (k+1 + ·)) s':=fun s'=>Zyt rest (k+1) s' hl';rw [hrange];simp only [Ze0,hk];unfold stD;simp only [Zdd] at h
  cases hw:Zga ops s.τ o with
  | none=>rw [hw] at h;exact h.elim
  | some b =>
   rw [hw] at h
   cases b with
   | false=>exact ih _ h
   | true =>
    simp only [Zxi] at h ⊢
    split at h
    ·rename_i f args ats hop
     obtain ⟨dst,op,type,pos,after,guard⟩:=o;simp only at hop;subst hop
     cases hb:T.bor k with
     | any =>
      rw [hb,mdK_any] at h;have h2':=Z0b (K':=fun u H'=>KpH P kp H'∧Ze0 P E kp ops T Q ((List.range rest.length).map (k+1 + ·)) (AS.put { s with H:=H' } dst u)) (fun v H' hk'=>(Zsw.1 hk').imp id (ih _)) h;unfold Zmd;exact h2'
     | keep =>
      rw [hb,Z16] at h;have h2':=Z0b (K':=fun u H'=>KpH P kp H'∧Ze0 P E kp ops T Q ((List.range rest.length).map (k+1 + ·)) (AS.put { s with H:=H' } dst u)) (fun v H' hk'=>(Zsw.1 hk').imp id (ih _)) h;unfold Zmd;exact h2'
     | lend =>
      rw [hb] at h;obtain ⟨h1,h2⟩:=h;unfold Zlz at h1;unfold Zmd
      split at h1
      ·rename_i fid first cap hf
       simp only [Zqa,hf];exact ⟨h1,ih _ h2⟩
      ·exact h1.elim
     | pure =>
      rw [hb] at h;obtain ⟨h1,h2⟩:=h;unfold Zlz at h1;unfold Zmd
      split at h1
      ·rename_i fid first cap hf
       simp only [Zqa,hf];exact ⟨h1,ih _ h2⟩
      ·exact h1.elim
    ·rename_i t x hop
     obtain ⟨dst,op,type,pos,after,guard⟩:=o;simp only at hop;subst hop
     cases hb:T.bor k with
     | lend =>
      rw [hb,Z76,Zar] at h;unfold Zmd;simp only [Zqa,Zrw]
      cases hv:Zqc P t (s.ev E x) with
      | none=>rw [hv] at h;exact h.elim
      | some u=>rw [hv] at h;exact ih _ h
     | keep =>
      rw [hb,Z86] at h;unfold Zmd;simp only [Zqa,Zrw];exact ⟨h.1,ih _ h.2⟩
     | pure =>
      rw [hb,Z66] at h;have h2':=Z0b (fun v H' hk'=>ih _ hk') h;unfold Zmd;exact h2'
     | any =>
      rw [hb,ldK_any] at h;have h2':=Z0b (fun v H' hk'=>ih _ hk') h;unfold Zmd;exact h2'
    ·rename_i hne hnl
     obtain ⟨h1,h2⟩:=h
     have tame:Z2p o=true→Z1a P E s o fun v H'=>Ze0 P E kp ops T Q ((List.range rest.length).map (k+1 + ·)) (AS.put { s with H:=H' } o.dst v):=fun ht =>
      Z0b (fun v H' hk'=>ih _ (by rw [ht] at hk';exact hk')) h2
     have wild:Z2p o=false→Z1a P E s o fun v H'=>KpH P kp H'∧Ze0 P E kp ops T Q ((List.range rest.length).map (k+1 + ·)) (AS.put { s with H:=H' } o.dst v):=fun ht =>
      Z0b (fun v H' hk'=>(by rw [ht] at hk';exact (Zsw.1 hk').imp id (ih _))) h2
     obtain ⟨dst,op,type,pos,after,guard⟩:=o;unfold Zmd
     cases op<;>try (first | exact tame rfl | exact wild rfl | exact absurd rfl (hnl _ _))
     ·obtain ⟨d,hd,hdead⟩:=h1 rfl
      simp only at hd;subst hd;exact ⟨hdead,tame rfl⟩
     ·obtain ⟨d,hd,hdead⟩:=h1 rfl
      simp only at hd;subst hd;exact ⟨hdead,tame rfl⟩
     ·obtain ⟨d,hd,hdead⟩:=h1 rfl
      simp only at hd;subst hd;exact ⟨hdead,tame rfl⟩
     ·obtain ⟨d,hd,hdead⟩:=h1 rfl
      simp only at hd;subst hd;exact ⟨hdead,tame rfl⟩
     ·rename_i c
      obtain ⟨callee,args,ats⟩:=c
      cases callee with
      | value f=>exact absurd rfl (hne f args ats)
      | invoke r m=>exact wild rfl
      | builtin b=>cases b<;>first | exact tame rfl | exact wild rfl
theorem Zig {id:Nat} {ops:Array Oper} {Q:Exit→AS→Prop} {s:AS} (kp:Kps) (T:Told) (hm:P.follows .mixedOrders=true) (hG:GOk E.G) (hd:(ops.all (Z8f E.n))=true)
  (hok:Z1p ops T.bor 0 ops.toList=true) (h:Zdd P E kp ops (Q .normal) T 0 ops.toList s):AW P E (.region id ops true) Q s:=by
 refine Zl1 hm hG kp T hd hok ?_;have:=Zyt (P:=P) (E:=E) ops.toList 0 s (fun j=>by simp) h;simpa using this
theorem Zw {id:Nat} {ops:Array Oper} {Q:Exit→AS→Prop} {s:AS} (T:Told) (hm:P.follows .mixedOrders=true) (hG:GOk E.G) (hd:(ops.all (Z8f E.n))=true)
  (hok:Z1p ops T.bor 0 ops.toList=true) (h:Zdd P E [] ops (Q .normal) T 0 ops.toList s):AW P E (.region id ops true) Q s:=Zig [] T hm hG hd hok h
section
variable {ops:Array Oper} {Q:AS→Prop} {T:Told} {rest:List Oper} {τ : Nat→V} {H:Heap} {d:Option Nat} {ty:TypeId} {pos:String} {af:Array Edge} {i:Nat}
@[go_sem] theorem opsT_nil (s:AS):Zdd P E kp ops Q T i [] s=Q s:=rfl
@[go_sem] theorem opsT_guard (l:List Oper) (op:Op) (j:Nat) (want:Bool) :
  Zdd P E kp ⟨l⟩ Q T i (⟨d,op,ty,pos,af,some (j,want)⟩::rest) ⟨τ,H⟩ =
   Zxi (Zej ((Zzj l j).map τ) want) (Zdd P E kp ⟨l⟩ Q T (i+1) rest (AS.put ⟨τ,H⟩ d (.tuple []))) (Zdd P E kp ⟨l⟩ Q T i (⟨d,op,ty,pos,af,none⟩::rest) ⟨τ,H⟩):=by
 have e2:Zga ⟨l⟩ τ ⟨d,op,ty,pos,af,some (j,want)⟩=Zej ((Zzj l j).map τ) want:=by
  unfold Zga Zzj;simp only [List.getElem?_toArray]
  cases (l[j]?).bind (·.dst) with
  | none=>rfl
  | some e =>
   simp only [Option.map_some,Zej,Zlo];generalize τ e=v
   cases v<;>rfl
 simp only [Zdd];rw [e2];rfl
@[go_sem] theorem opsT_call (f:Operand) (l:List Operand) (ats:Array TypeId):Zdd P E kp ops Q T i (⟨d,.call ⟨.value f,⟨l⟩,ats⟩,ty,pos,af,none⟩::rest) ⟨τ,H⟩ =
  mdK (borA T i) (Zlz P E (T.bor i) (T.vs i) H (AS.ev E ⟨τ,H⟩ f) (l.map (AS.ev E ⟨τ,H⟩))∧Zdd P E kp ops Q T (i+1) rest (AS.put ⟨τ,H⟩ d (T.vs i)))
   (Zub P E ops (kpQ P kp (Zdd P E kp ops Q T (i+1) rest)) [⟨d,.call ⟨.value f,⟨l⟩,ats⟩,ty,pos,af,none⟩] ⟨τ,H⟩):=by
 rw [Zlc];rfl
@[go_sem] theorem toldC_pure (v:V) (fid:FuncId) (first cap args:List V):Zlz P E .pure v H (.func (.func fid) first cap) args=Zep P E.G fid (first++args++cap) v:=rfl
@[go_sem] theorem toldC_lend (v:V) (fid:FuncId) (first cap args:List V):Zlz P E .lend v H (.func (.func fid) first cap) args=BorC P E.G fid (first++args++cap) H v:=rfl
def Z4y (o:Option V) (K:V→Prop):Prop:=Zwt o K
@[go_sem] theorem contV2_some (v:V) (K:V→Prop):Z4y (some v) K=K v:=rfl
@[congr] theorem Zy8 {o o':Option V} {K:V→Prop} (h:o=o'):Z4y o K=Z4y o' K:=by rw [h]
theorem Zkb (o:Oper) (hg:o.guard=none) (hp:Zfl o=true) (ht:Z2p o=true):Zdd P E kp ops Q T i (o::rest) ⟨τ,H⟩=Zub P E ops (Zdd P E kp ops Q T (i+1) rest) [o] ⟨τ,H⟩:=by
 obtain ⟨dst,op,type,pos,after,guard⟩:=o;simp only at hg;subst hg;rw [Zlc];simp only [Zdd,Zsr];have hw:Zga ops τ ⟨dst,op,type,pos,after,none⟩=some true:=rfl;rw [hw,Zef];rw [ht]
 cases op<;>first
  | (simp only [Zaj,kpB,Bool.false_eq_true,false_implies,true_and];done)
  | (simp [Zfl] at hp;done)
  | skip
 all_goals first | (cases hp;done) | skip
 rename_i c;obtain ⟨callee,args,ats⟩:=c
 cases callee<;>simp [Zaj,kpB,Zfl] at hp ⊢
theorem Zxt (o:Oper) (hg:o.guard=none) (hp:Zfl o=true) (ht:Z2p o=false):Zdd P E kp ops Q T i (o::rest) ⟨τ,H⟩=Zub P E ops (kpQ P kp (Zdd P E kp ops Q T (i+1) rest)) [o] ⟨τ,H⟩:=by
 obtain ⟨dst,op,type,pos,after,guard⟩:=o;simp only at hg;subst hg;rw [Zlc];simp only [Zdd,Zsr];have hw:Zga ops τ ⟨dst,op,type,pos,after,none⟩=some true:=rfl;rw [hw,Zef,ht]
 cases op<;>first
  | (simp only [Zaj,kpB,Bool.false_eq_true,false_implies,true_and];done)
  | (simp [Zfl] at hp;done)
  | skip
 all_goals first | (cases hp;done) | skip
 rename_i c;obtain ⟨callee,args,ats⟩:=c
 cases callee<;>simp [Zaj,kpB,Zfl] at hp ⊢
theorem Zgq (e:Nat) (op:Op) (hp:Zaj ⟨some e,op,ty,pos,af,none⟩=true):Zdd P E kp ops Q T i (⟨some e,op,ty,pos,af,none⟩::rest) ⟨τ,H⟩ =
  (H (E.q+e) = .dead∧Zub P E ops (Zdd P E kp ops Q T (i+1) rest) [⟨some e,op,ty,pos,af,none⟩] ⟨τ,H⟩):=by
 rw [Zlc];simp only [Zdd,Zsr];have hw:Zga ops τ ⟨some e,op,ty,pos,af,none⟩=some true:=rfl;rw [hw,Zef]
 cases op<;>simp [Zaj,kpB,Z2p] at hp ⊢
section
@[go_sem] theorem opsT_move (x:Operand):Zdd P E kp ops Q T i (⟨d,.move x,ty,pos,af,none⟩::rest) ⟨τ,H⟩=Zub P E ops (Zdd P E kp ops Q T (i+1) rest) [⟨d,.move x,ty,pos,af,none⟩] ⟨τ,H⟩:=Zkb _ rfl rfl rfl
@[go_sem] theorem opsT_assign (x:Operand):Zdd P E kp ops Q T i (⟨d,.assign x,ty,pos,af,none⟩::rest) ⟨τ,H⟩=Zub P E ops (Zdd P E kp ops Q T (i+1) rest) [⟨d,.assign x,ty,pos,af,none⟩] ⟨τ,H⟩:=Zkb _ rfl rfl rfl
@[go_sem] theorem opsT_pick (x y z:Operand):Zdd P E kp ops Q T i (⟨d,.pick x y z,ty,pos,af,none⟩::rest) ⟨τ,H⟩=Zub P E ops (Zdd P E kp ops Q T (i+1) rest) [⟨d,.pick x y z,ty,pos,af,none⟩] ⟨τ,H⟩:=Zkb _ rfl rfl rfl
@[go_sem] theorem opsT_binOp (o:BinOp) (t:TypeId) (x y:Operand) (u:TypeId):Zdd P E kp ops Q T i (⟨d,.binOp o t x y u,ty,pos,af,none⟩::rest) ⟨τ,H⟩=Zub P E ops (Zdd P E kp ops Q T (i+1) rest) [⟨d,.binOp o t x y u,ty,pos,af,none⟩] ⟨τ,H⟩:=Zkb _ rfl rfl rfl
@[go_sem] theorem opsT_unOp (o:UnOp) (t:TypeId) (x:Operand):Zdd P E kp ops Q T i (⟨d,.unOp o t x,ty,pos,af,none⟩::rest) ⟨τ,H⟩=Zub P E ops (Zdd P E kp ops Q T (i+1) rest) [⟨d,.unOp o t x,ty,pos,af,none⟩] ⟨τ,H⟩:=Zkb _ rfl rfl rfl
@[go_sem] theorem Zf8 (x:Operand) (n:Nat):Zdd P E kp ops Q T i (⟨d,.extract x n,ty,pos,af,none⟩::rest) ⟨τ,H⟩=Zub P E ops (Zdd P E kp ops Q T (i+1) rest) [⟨d,.extract x n,ty,pos,af,none⟩] ⟨τ,H⟩:=Zkb _ rfl rfl rfl
@[go_sem] theorem Zi5 (t:TypeId) (x:Operand) (n:Nat):Zdd P E kp ops Q T i (⟨d,.fieldAddr t x n,ty,pos,af,none⟩::rest) ⟨τ,H⟩=Zub P E ops (Zdd P E kp ops Q T (i+1) rest) [⟨d,.fieldAddr t x n,ty,pos,af,none⟩] ⟨τ,H⟩:=Zkb _ rfl rfl rfl
@[go_sem] theorem Zh5 (t:TypeId) (x y:Operand):Zdd P E kp ops Q T i (⟨d,.indexAddr t x y,ty,pos,af,none⟩::rest) ⟨τ,H⟩=Zub P E ops (Zdd P E kp ops Q T (i+1) rest) [⟨d,.indexAddr t x y,ty,pos,af,none⟩] ⟨τ,H⟩:=Zkb _ rfl rfl rfl
@[go_sem] theorem opsT_slice (t:TypeId) (x:Operand) (a b c:Option Operand):Zdd P E kp ops Q T i (⟨d,.slice t x a b c,ty,pos,af,none⟩::rest) ⟨τ,H⟩=Zub P E ops (Zdd P E kp ops Q T (i+1) rest) [⟨d,.slice t x a b c,ty,pos,af,none⟩] ⟨τ,H⟩:=Zkb _ rfl rfl rfl
@[go_sem] theorem opsT_build (t:TypeId) (x:Array (Nat × Operand)):Zdd P E kp ops Q T i (⟨d,.build t x,ty,pos,af,none⟩::rest) ⟨τ,H⟩=Zub P E ops (Zdd P E kp ops Q T (i+1) rest) [⟨d,.build t x,ty,pos,af,none⟩] ⟨τ,H⟩:=Zkb _ rfl rfl rfl
@[go_sem] theorem Zv6 (x:Operand):Zdd P E kp ops Q T i (⟨d,.nilCheck x,ty,pos,af,none⟩::rest) ⟨τ,H⟩=Zub P E ops (Zdd P E kp ops Q T (i+1) rest) [⟨d,.nilCheck x,ty,pos,af,none⟩] ⟨τ,H⟩:=Zkb _ rfl rfl rfl
@[go_sem] theorem opsT_load (t:TypeId) (x:Operand):Zdd P E kp ops Q T i (⟨d,.load t x,ty,pos,af,none⟩::rest) ⟨τ,H⟩ =
  ldK (borA T i) (Z4y (Z8b P Zl t (AS.ev E ⟨τ,H⟩ x)) fun v=>Zdd P E kp ops Q T (i+1) rest (AS.put ⟨τ,H⟩ d v)) (Zub P E ops (Zdd P E kp ops Q T (i+1) rest) [⟨d,.load t x,ty,pos,af,none⟩] ⟨τ,H⟩)
   (Zg7 P kp t (AS.ev E ⟨τ,H⟩ x) (T.vs i) H (Zdd P E kp ops Q T (i+1) rest (AS.put ⟨τ,H⟩ d (T.vs i)))):=by
 rw [Zlc];rfl
@[go_sem] theorem opsT_store (t:TypeId) (x y:Operand):Zdd P E kp ops Q T i (⟨d,.store t x y,ty,pos,af,none⟩::rest) ⟨τ,H⟩=Zub P E ops (kpQ P kp (Zdd P E kp ops Q T (i+1) rest)) [⟨d,.store t x y,ty,pos,af,none⟩] ⟨τ,H⟩:=Zxt _ rfl rfl rfl
@[go_sem] theorem Zg8 (b:Builtin) (l:Array Operand) (ats:Array TypeId):Zdd P E kp ops Q T i (⟨d,.call ⟨.builtin b,l,ats⟩,ty,pos,af,none⟩::rest) ⟨τ,H⟩=Zub P E ops (kpT P kp (match b with | .len | .max | .min=>true | _=>false) (Zdd P E kp ops Q T (i+1) rest)) [⟨d,.call ⟨.builtin b,l,ats⟩,ty,pos,af,none⟩] ⟨τ,H⟩:=by
 cases b
 case len=>exact Zkb _ rfl rfl rfl
 case max=>exact Zkb _ rfl rfl rfl
 case min=>exact Zkb _ rfl rfl rfl
 all_goals exact Zxt _ rfl rfl rfl
@[go_sem] theorem opsT_alloc (e:Nat) (t:TypeId):Zdd P E kp ops Q T i (⟨some e,.alloc t,ty,pos,af,none⟩::rest) ⟨τ,H⟩=(H (E.q+e) = .dead∧Zub P E ops (Zdd P E kp ops Q T (i+1) rest) [⟨some e,.alloc t,ty,pos,af,none⟩] ⟨τ,H⟩):=Zgq e _ rfl
@[go_sem] theorem Z32 (e:Nat) (t:TypeId) (n:Nat) (x:Array (Nat × Operand)):Zdd P E kp ops Q T i (⟨some e,.buildSlice t n x,ty,pos,af,none⟩::rest) ⟨τ,H⟩=(H (E.q+e) = .dead∧Zub P E ops (Zdd P E kp ops Q T (i+1) rest) [⟨some e,.buildSlice t n x,ty,pos,af,none⟩] ⟨τ,H⟩):=Zgq e _ rfl
end
end
end
end Go.Hs
end
