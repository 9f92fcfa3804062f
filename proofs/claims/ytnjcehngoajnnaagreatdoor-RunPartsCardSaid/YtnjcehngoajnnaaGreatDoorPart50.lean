/- Part 50 of the proof of a statement of seat YtnjcehngoajnnaaGreatDoor: HsSplit. -/
import Derived.Test.YtnjcehngoajnnaaGreatDoorPart49
set_option linter.unusedSimpArgs false
set_option linter.unusedVariables false
section
namespace Go.Hs
variable {P:Program} {E:Ent} {ops:Array Oper} {kp:Kps}
def Z8s (a:Nat) (o:Oper):Oper:={ o with after:=o.after.push ⟨a,.data⟩ }
def Ztq (ops:Array Oper) (b a:Nat):Array Oper:=ops.modify b (Z8s a)
theorem Zbf (b a i:Nat):(Ztq ops b a)[i]? = if b=i then (ops[i]?).map (Z8s a) else ops[i]? := by
 unfold Ztq;rw [Array.getElem?_modify]
theorem Zsq (b a:Nat):(Ztq ops b a).size=ops.size:=by unfold Ztq;exact Array.size_modify
theorem Zbw (b a:Nat) (τ : Nat→V) (o:Oper):Z7 (Ztq ops b a) τ o=Z7 ops τ o:=by
 unfold Z7
 cases o.guard with
 | none=>rfl
 | some p =>
  obtain ⟨j,want⟩:=p
  have:((Ztq ops b a)[j]?).bind (·.dst)=(ops[j]?).bind (·.dst):=by
   rw [Zbf]
   split
   ·cases ops[j]? <;> rfl
   ·rfl
  simp only [this]
theorem Zaj (b a:Nat) {bor:Md} {v:V} {o:Oper} {K:AS→Prop} {s:AS}:stD P E kp (Ztq ops b a) bor v o K s=stD P E kp ops bor v o K s:=by
 unfold stD;rw [Zbw]
theorem Znw (a:Nat) {bor:Md} {v:V} {o:Oper} {K:AS→Prop} {s:AS}:stD P E kp ops bor v (Z8s a o) K s=stD P E kp ops bor v o K s:=by
 obtain ⟨dst,op,type,pos,after,guard⟩:=o;unfold stD;have:Z7 ops s.τ (Z8s a ⟨dst,op,type,pos,after,guard⟩)=Z7 ops s.τ ⟨dst,op,type,pos,after,guard⟩:=rfl;rw [this]
 cases Z7 ops s.τ ⟨dst,op,type,pos,after,guard⟩ with
 | none=>rfl
 | some x =>
  cases x with
  | false=>rfl
  | true =>
   show Zkc P E kp bor v s _ _=Zkc P E kp bor v s _ _
   unfold Zkc;have hc:Zea bor (Z8s a ⟨dst,op,type,pos,after,guard⟩)=Zea bor ⟨dst,op,type,pos,after,guard⟩:=rfl;rw [hc]
   have hA:∀ K',Zza P E s (Z8s a ⟨dst,op,type,pos,after,guard⟩) K'=Zza P E s ⟨dst,op,type,pos,after,guard⟩ K':=fun K'=>by
    unfold Zza
    cases op<;>rfl
   simp only [hA];rfl
theorem Zef {b a i:Nat} {listed:Array Bool} (h:i∈Region.ready .any ops listed) (hw:i=b→listed.getD a false=true):i∈Region.ready .any (Ztq ops b a) listed:=by
 obtain ⟨h0,o,ho,hall⟩:=mem_ready.1 h;refine mem_ready.2 ⟨h0,?_⟩
 by_cases hb:b=i
 ·subst hb
  refine ⟨Z8s a o,by rw [Zbf,if_pos rfl,ho];rfl,fun e he hbd=>?_⟩
  rcases Array.mem_push.1 he with q | rfl
  ·exact hall e q hbd
  ·exact hw rfl
 ·exact ⟨o,by rw [Zbf,if_neg hb,ho],hall⟩
theorem Zil {b a i:Nat} {listed:Array Bool} (h:i∈Region.ready .any (Ztq ops b a) listed):i∈Region.ready .any ops listed:=by
 obtain ⟨h0,o,ho,hall⟩:=mem_ready.1 h;rw [Zbf] at ho
 by_cases hb:b=i
 ·rw [if_pos hb] at ho
  cases ho2:ops[i]? with
  | none=>rw [ho2] at ho;cases ho
  | some o2 =>
   rw [ho2] at ho;cases ho;exact mem_ready.2 ⟨h0,o2,ho2,fun e he hbd=>hall e (Array.mem_push.2 (.inl he)) hbd⟩
 ·rw [if_neg hb] at ho
  exact mem_ready.2 ⟨h0,o,ho,hall⟩
theorem Z1t {listed:Array Bool} {a i:Nat} (h:listed.getD a false=true):(listed.setIfInBounds i true).getD a false=true:=by
 by_cases hi:i=a
 ·subst hi;exact getD_set_true h
 ·rw [getD_set_ne false hi];exact h
theorem Zzi {T:Told} {Q:AS→Prop} {b a:Nat}:∀ (n:Nat) (listed:Array Bool) (s:AS),listed.getD a false=true→Zsr P E kp (Ztq ops b a) T Q n listed s→Zsr P E kp ops T Q n listed s
 | 0,listed,s,ha,h=>⟨(by
   rw [List.eq_nil_iff_forall_not_mem];intro i hi;have:=Zef (b:=b) (a:=a) hi fun _=>ha;rw [h.1] at this
   cases this),h.2⟩
 | n+1,listed,s,ha,h=>by
  refine ⟨fun hr=>h.1 ?_,fun i hi o ho=>?_⟩
  ·rw [List.eq_nil_iff_forall_not_mem]
   intro i hi;have:=Zil hi;rw [hr] at this;cases this
  ·have hi1:=Zef (b:=b) (a:=a) hi fun _=>ha
   have key:stD P E kp ops (T.bor i) (T.vs i) o (Zsr P E kp (Ztq ops b a) T Q n (listed.setIfInBounds i true)) s:=by
    by_cases hb:b=i
    ·have:=h.2 i hi1 (Z8s a o) (by rw [Zbf,if_pos hb,ho];rfl)
     rw [Zaj,Znw] at this;exact this
    ·have:=h.2 i hi1 o (by rw [Zbf,if_neg hb,ho])
     rw [Zaj] at this;exact this
   exact Z5c (fun s' hs'=>Zzi n _ s' (Z1t ha) hs') key
theorem Zdaa {bor:Md} {v:V} {o:Oper} {s:AS} {u u':V} (h:Z5v P E kp ops bor v o s u) (h':Z5v P E kp ops bor v o s u'):u=u':=by
 unfold Z5v at h h'
 cases hw:Z7 ops s.τ o with
 | none=>rw [hw] at h;exact h.elim
 | some b =>
  rw [hw] at h h'
  cases b with
  | false=>simp only at h h';rw [h,h']
  | true =>
   obtain ⟨dst,op,type,pos,after,guard⟩:=o;cases op
   case load t x =>
    simp only at h h';unfold ldR at h h'
    cases bor<;>simp only at h h'<;>first | (rw [h] at h';exact Option.some.inj h') | (rw [h.2,h'.2])
   case call c =>
    obtain ⟨callee,args,ats⟩:=c;cases callee
    case value f =>
     simp only at h h'
     split at h
     ·rename_i hev
      rw [hev] at h';simp only at h';rw [h.1,h'.1]
     ·exact h.elim
    all_goals
     simp only at h h';rw [h] at h';exact Option.some.inj h'
   all_goals
    simp only at h h';rw [h] at h';exact Option.some.inj h'
def Z9z (ops:Array Oper) (bor:Nat→Md) (a b:Nat):Bool :=
 !(Nat.beq a b) && (List.range ops.size).all fun i=>Nat.beq i a || (Nat.beq i b || (match ops[i]? with
  | none=>true
  | some o=>(match Zea (bor i) o with | .P | .R | .L | .B=>true | _=>false) || o.after.toList.any fun e=>Region.binds .any e && (Nat.beq e.on a || Nat.beq e.on b)))
theorem Zn5 {T:Told} {Q:AS→Prop} {a b:Nat} (hok:Z9z ops T.bor a b=true):∀ (n:Nat) (listed:Array Bool) (s:AS),
  Zsr P E kp (Ztq ops b a) T Q n listed s→Zsr P E kp (Ztq ops a b) T Q n listed s→Zsr P E kp ops T Q n listed s:=by
 unfold Z9z at hok;rw [Bool.and_eq_true] at hok;obtain ⟨hab,hall⟩:=hok
 have hab:a≠b:=by intro e;subst e;simp at hab
 rw [List.all_eq_true] at hall;intro n
 induction n with
 | zero =>
  intro listed s h1 h2;refine ⟨?_,h1.2⟩;rw [List.eq_nil_iff_forall_not_mem];intro i hi
  by_cases hb:i=b
  ·have:=Zef (b:=a) (a:=b) hi fun e=>absurd (e.symm.trans hb) hab
   rw [h2.1] at this;cases this
  ·have:=Zef (b:=b) (a:=a) hi fun e=>absurd e hb
   rw [h1.1] at this;cases this
 | succ n ih =>
  intro listed s h1 h2
  by_cases hla:listed.getD a false=true
  ·exact Zzi _ _ _ hla h1
  by_cases hlb:listed.getD b false=true
  ·exact Zzi _ _ _ hlb h2
  refine ⟨fun hr=>h1.1 ?_,fun i hi o ho=>?_⟩
  ·rw [List.eq_nil_iff_forall_not_mem]
   intro i hi;have:=Zil hi;rw [hr] at this;cases this
  ·have hi0:=hi
   obtain ⟨h0,o',ho',hedge⟩:=mem_ready.1 hi0;rw [ho] at ho';cases ho'
   have hlt:i<listed.size∨¬ i<listed.size:=by omega
   have get1:i≠b→stD P E kp ops (T.bor i) (T.vs i) o (Zsr P E kp (Ztq ops b a) T Q n (listed.setIfInBounds i true)) s:=fun hb=>by
    have:=h1.2 i (Zef hi fun e=>absurd e hb) o (by rw [Zbf,if_neg (Ne.symm hb),ho]);rw [Zaj] at this;exact this
   have get2:i≠a→stD P E kp ops (T.bor i) (T.vs i) o (Zsr P E kp (Ztq ops a b) T Q n (listed.setIfInBounds i true)) s:=fun hb=>by
    have:=h2.2 i (Zef hi fun e=>absurd e hb) o (by rw [Zbf,if_neg (Ne.symm hb),ho]);rw [Zaj] at this;exact this
   have hset:i<listed.size→(listed.setIfInBounds i true).getD i false=true:=fun hl=>by
    simp [Array.getD,hl]
   have hin:i<listed.size:=by
    rcases hlt with q | q
    ·exact q
    ·exfalso
     simp [Array.getD,q] at h0
   by_cases hia:i=a
   ·subst hia
    exact Z5c (fun s' hs'=>Zzi _ _ _ (hset hin) hs') (get1 hab)
   by_cases hib:i=b
   ·subst hib
    exact Z5c (fun s' hs'=>Zzi _ _ _ (hset hin) hs') (get2 hia)
   have hi2:=hall i (List.mem_range.2 (by rw [Array.getElem?_eq_some_iff] at ho;exact ho.1));rw [ho] at hi2
   have e1:Nat.beq i a=false:=by rw [Bool.eq_false_iff];exact fun q=>hia (Nat.eq_of_beq_eq_true q)
   have e2:Nat.beq i b=false:=by rw [Bool.eq_false_iff];exact fun q=>hib (Nat.eq_of_beq_eq_true q)
   rw [e1,e2,Bool.false_or,Bool.false_or,Bool.or_eq_true] at hi2
   rcases hi2 with hc | hw
   ·have hc2:Zea (T.bor i) o = .P∨Zea (T.bor i) o = .R∨Zea (T.bor i) o = .L∨Zea (T.bor i) o = .B:=by
     cases hq:Zea (T.bor i) o<;>rw [hq] at hc<;>simp at hc ⊢
    obtain ⟨u,hu,k1⟩:=(Zjh hc2).1 (get1 hib);obtain ⟨u',hu',k2⟩:=(Zjh hc2).1 (get2 hia);rw [Zdaa hu' hu] at k2;exact (Zjh hc2).2 ⟨u,hu,ih _ _ k1 k2⟩
   ·rw [List.any_eq_true] at hw
    obtain ⟨e,he,hq⟩:=hw;rw [Bool.and_eq_true,Bool.or_eq_true] at hq;have hl:=hedge e (by simpa using he) hq.1
    rcases hq.2 with q | q
    ·rw [Nat.eq_of_beq_eq_true q] at hl;exact absurd hl hla
    ·rw [Nat.eq_of_beq_eq_true q] at hl;exact absurd hl hlb
theorem Zmp {Q:AS→Prop} {T:Told} (b a:Nat):∀ (l:List Nat) (s:AS),Zkr P E kp ops T Q l s→Zkr P E kp (Ztq ops b a) T Q l s
 | [],s,h=>h
 | i::rest,s,h=>by
  rw [Zkr] at h ⊢;rw [Zbf]
  cases ho:ops[i]? with
  | none=>rw [ho] at h;exact h.elim
  | some o =>
   rw [ho] at h
   by_cases hb:b=i
   ·rw [if_pos hb]
    show stD P E kp (Ztq ops b a) (T.bor i) (T.vs i) (Z8s a o) _ s
    rw [Zaj,Znw];exact Z5c (fun s' hs'=>Zmp b a rest s' hs') h
   ·rw [if_neg hb]
    show stD P E kp (Ztq ops b a) (T.bor i) (T.vs i) o _ s
    rw [Zaj];exact Z5c (fun s' hs'=>Zmp b a rest s' hs') h
theorem Z55 {id:Nat} {Q:Exit→AS→Prop} {s:AS} (a b:Nat) (ord1 ord2:List Nat) (kp:Kps) (T:Told) (hm:P.follows .mixedOrders=true) (hG:GOk E.G) (hd:(ops.all (Z1e E.n))=true) (hsp:Z9z ops T.bor a b=true)
  (hok1:Zv4 (Ztq ops b a) T.bor [] ord1=true) (hall1:(List.range ops.size).all (fun j=>ord1.any (Nat.beq j))=true) (hlen1:Nat.beq ord1.length ops.size=true)
  (hok2:Zv4 (Ztq ops a b) T.bor [] ord2=true) (hall2:(List.range ops.size).all (fun j=>ord2.any (Nat.beq j))=true) (hlen2:Nat.beq ord2.length ops.size=true)
  (h1:Zz9 P E kp ops (Q .normal) T ord1 s) (h2:Zz9 P E kp ops (Q .normal) T ord2 s):AW P E (.region id ops true) Q s:=by
 intro w0 w hs;refine wp_region_any hm ?_
 have hs':Sat E s w0 { w with drawn:=w.drawn+1 }:=by
  obtain ⟨X,hX⟩:=hs;have hg:=Goes.drew hX.go.inv (w.drawn+1);refine ⟨{ X with w:={ X.w with drawn:=X.w.drawn+1 } },by simp only;rw [hX.hw],?_,hX.df.mono (Goes.drew hX.go.inv _).le,hX.sz,fun t=>?_,fun g=>?_⟩
  ·have:=hg
   rw [← hX.hw] at this;exact hX.go.trans this
  ·have:=hg.le
   rw [← hX.hw] at this;exact (hX.tm t).mono this
  ·have:=hg
   rw [← hX.hw] at this;exact (hX.gl g).go hX.go.inv this
 have one:∀ (b a:Nat) (ord:List Nat),Zv4 (Ztq ops b a) T.bor [] ord=true→(List.range ops.size).all (fun j=>ord.any (Nat.beq j))=true→Nat.beq ord.length ops.size=true→Zz9 P E kp ops (Q .normal) T ord s →
   Zsr P E kp (Ztq ops b a) T (Q .normal) ops.size (Array.replicate ops.size false) s:=by
  intro b a ord hok hall hlen h
  have hc:Closed (Ztq ops b a) (Array.replicate ops.size false):=by
   intro k o _ hk
   exfalso
   simp only [Array.getD_eq_getD_getElem?,Array.getElem?_replicate] at hk
   split at hk<;>simp at hk
  have hany:=Zmq (P:=P) (E:=E) (kp:=kp) (T:=T) (Q:=Q .normal) ord [] (Array.replicate ops.size false) s (fun k hk=>by cases hk) (fun j hj => .inr (by
   rw [List.all_eq_true] at hall;rw [Zsq] at hj
   exact Zxk.1 (hall j (List.mem_range.2 hj)))) ⟨by simp [Zsq],fun j hj=>by rw [Zsq] at hj;simp [hj]⟩ hc hok (Zmp b a _ _ (Z8w ord s h))
  rw [Nat.eq_of_beq_eq_true hlen] at hany;exact hany
 have hany:=Zn5 hsp _ _ _ (one b a ord1 hok1 hall1 hlen1 h1) (one a b ord2 hok2 hall2 hlen2 h2);exact Zio hG (R:=Post E Q) (fun ch a w h => .inr ⟨ch,rfl,h⟩) (fun s a w h1 h2 => .inl ⟨s,h1,h2⟩) hd ops.size _ s w0 _ hs' hany
end Go.Hs
end
