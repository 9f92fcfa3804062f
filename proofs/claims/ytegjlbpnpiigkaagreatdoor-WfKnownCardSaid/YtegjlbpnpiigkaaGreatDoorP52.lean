/- A part. No condition. -/
import Derived.Test.YtegjlbpnpiigkaaGreatDoorP51
set_option linter.all false
namespace Go.Hs
section
variable{P:Program}{E:Ent}{ops:Array Oper}{kp:Kps}
def Z0s(a:Nat)(o:Oper):Oper:={ o with after:=o.after.push ⟨a,.data⟩ }
def Zoq(ops:Array Oper)(b a:Nat):Array Oper:=ops.modify b (Z0s a)
theorem Zze(b a i:Nat):(Zoq ops b a)[i]?=if b=i then(ops[i]?).map (Z0s a)else ops[i]? := by
 unfold Zoq;rw[Array.getElem?_modify]
theorem Znq(b a:Nat):(Zoq ops b a).size=ops.size:=by unfold Zoq;exact Array.size_modify
theorem Z5u(b a:Nat)(τ : Nat->V)(o:Oper):Zaa (Zoq ops b a) τ o=Zaa ops τ o:=by
 unfold Zaa
 cases o.guard with
 |none=>rfl
 |some p=>
  obtain⟨j,want⟩:=p
  have:((Zoq ops b a)[j]?).bind (·.dst)=(ops[j]?).bind (·.dst):=by
   rw[Zze]
   split
   cases ops[j]? <;> rfl
   rfl
  simp only[this]
theorem Zei(b a:Nat){bor:Md}{v:V}{o:Oper}{K:AS->Prop}{s:AS}:stD P E kp (Zoq ops b a) bor v o K s=stD P E kp ops bor v o K s:=by
 unfold stD;rw[Z5u]
theorem Zkv(a:Nat){bor:Md}{v:V}{o:Oper}{K:AS->Prop}{s:AS}:stD P E kp ops bor v (Z0s a o) K s=stD P E kp ops bor v o K s:=by
 obtain⟨dst,op,type,pos,after,guard⟩:=o;unfold stD;have:Zaa ops s.τ (Z0s a ⟨dst,op,type,pos,after,guard⟩)=Zaa ops s.τ ⟨dst,op,type,pos,after,guard⟩:=rfl;rw[this]
 cases Zaa ops s.τ ⟨dst,op,type,pos,after,guard⟩with
 |none=>rfl
 |some x=>
  cases x with
  |false=>rfl
  |true=>
   show Zbc P E kp bor v s _ _=Zbc P E kp bor v s _ _
   unfold Zbc;have hc:Zka bor (Z0s a ⟨dst,op,type,pos,after,guard⟩)=Zka bor ⟨dst,op,type,pos,after,guard⟩:=rfl;rw[hc]
   have hA:∀ K',Zwa P E s (Z0s a ⟨dst,op,type,pos,after,guard⟩) K'=Zwa P E s ⟨dst,op,type,pos,after,guard⟩ K':=λK'=>by
    unfold Zwa
    cases op<;>rfl
   simp only[hA];rfl
theorem Z1e{b a i:Nat}{listed:Array Bool}(h:i∈Region.ready .any ops listed)(hw:i=b->listed.getD a false=true):i∈Region.ready .any (Zoq ops b a) listed:=by
 obtain⟨h0,o,ho,hall⟩:=mem_ready.1 h;refine mem_ready.2 ⟨h0,?_⟩
 by_cases hb:b=i
 subst hb;refine⟨Z0s a o,by rw[Zze,if_pos rfl,ho];rfl,λe he hbd=>?_⟩
 rcases Array.mem_push.1 he with q|rfl
 exact hall e q hbd;exact hw rfl;exact⟨o,by rw[Zze,if_neg hb,ho],hall⟩
theorem Zkk{b a i:Nat}{listed:Array Bool}(h:i∈Region.ready .any (Zoq ops b a) listed):i∈Region.ready .any ops listed:=by
 obtain⟨h0,o,ho,hall⟩:=mem_ready.1 h;rw[Zze]at ho
 by_cases hb:b=i
 .rw[if_pos hb]at ho
  cases ho2:ops[i]? with
  |none=>rw[ho2]at ho;cases ho
  |some o2=>
   rw[ho2]at ho;cases ho;exact mem_ready.2 ⟨h0,o2,ho2,λe he hbd=>hall e (Array.mem_push.2 (.inl he)) hbd⟩
 rw[if_neg hb]at ho;exact mem_ready.2 ⟨h0,o,ho,hall⟩
theorem Z3t{listed:Array Bool}{a i:Nat}(h:listed.getD a false=true):(listed.setIfInBounds i true).getD a false=true:=by
 by_cases hi:i=a
 subst hi;exact getD_set_true h;rw[getD_set_ne false hi];exact h
theorem Z8h{T:Told}{Q:AS->Prop}{b a:Nat}:∀ (n:Nat) (listed:Array Bool) (s:AS),listed.getD a false=true->Zjr P E kp (Zoq ops b a) T Q n listed s->Zjr P E kp ops T Q n listed s
 |0,listed,s,ha,h=>⟨(by
   rw[List.eq_nil_iff_forall_not_mem];intro i hi;have:=Z1e (b:=b) (a:=a) hi λ_=>ha;rw[h.1]at this
   cases this),h.2⟩
 |n+1,listed,s,ha,h=>by
  refine⟨λhr=>h.1 ?_,λi hi o ho=>?_⟩;rw[List.eq_nil_iff_forall_not_mem];intro i hi;have:=Zkk hi;rw[hr]at this;cases this;have hi1:=Z1e (b:=b) (a:=a) hi λ_=>ha
  have key:stD P E kp ops (T.bor i) (T.vs i) o (Zjr P E kp (Zoq ops b a) T Q n (listed.setIfInBounds i true)) s:=by
   by_cases hb:b=i
   have:=h.2 i hi1 (Z0s a o) (by rw[Zze,if_pos hb,ho];rfl);rw[Zei,Zkv]at this;exact this;have:=h.2 i hi1 o (by rw[Zze,if_neg hb,ho]);rw[Zei]at this;exact this
  exact Zuc (λs' hs'=>Z8h n _ s' (Z3t ha) hs') key
theorem Zpla{bor:Md}{v:V}{o:Oper}{s:AS}{u u':V}(h:Zuu P E kp ops bor v o s u)(h':Zuu P E kp ops bor v o s u'):u=u':=by
 unfold Zuu at h h'
 cases hw:Zaa ops s.τ o with
 |none=>rw[hw]at h;exact h.elim
 |some b=>
  rw[hw]at h h'
  cases b with
  |false=>simp only at h h';rw[h,h']
  |true=>
   obtain⟨dst,op,type,pos,after,guard⟩:=o;cases op
   case load t x=>
    simp only at h h';unfold ldR at h h'
    cases bor<;>simp only at h h'<;>first|(rw[h]at h';exact Option.some.inj h')|(rw[h.2,h'.2])
   case call c=>
    obtain⟨callee,args,ats⟩:=c;cases callee
    case value f=>
     simp only at h h'
     split at h
     rename_i hev;rw[hev]at h';simp only at h';rw[h.1,h'.1];exact h.elim
    all_goals
     simp only at h h';rw[h]at h';exact Option.some.inj h'
   all_goals
    simp only at h h';rw[h]at h';exact Option.some.inj h'
def Zo1(ops:Array Oper)(bor:Nat->Md)(a b:Nat):Bool:=
 !(Nat.beq a b)&&(List.range ops.size).all λi=>Nat.beq i a||(Nat.beq i b||(match ops[i]? with
  |none=>true
  |some o=>(match Zka (bor i) o with|.P|.R|.L|.B=>true|_=>false)||o.after.toList.any λe=>Region.binds .any e&&(Nat.beq e.on a||Nat.beq e.on b)))
theorem Z0ca{T:Told}{Q:AS->Prop}{a b:Nat}(hok:Zo1 ops T.bor a b=true):∀ (n:Nat) (listed:Array Bool) (s:AS),
  Zjr P E kp (Zoq ops b a) T Q n listed s->Zjr P E kp (Zoq ops a b) T Q n listed s->Zjr P E kp ops T Q n listed s:=by
 unfold Zo1 at hok;rw[Bool.and_eq_true]at hok;obtain⟨hab,hall⟩:=hok
 have hab:a≠b:=by intro e;subst e;simp at hab
 rw[List.all_eq_true]at hall;intro n
 induction n with
 |zero=>
  intro listed s h1 h2;refine⟨?_,h1.2⟩;rw[List.eq_nil_iff_forall_not_mem];intro i hi
  by_cases hb:i=b
  have:=Z1e (b:=a) (a:=b) hi λe=>absurd (e.symm.trans hb) hab;rw[h2.1]at this;cases this;have:=Z1e (b:=b) (a:=a) hi λe=>absurd e hb;rw[h1.1]at this;cases this
 |succ n ih=>
  intro listed s h1 h2
  by_cases hla:listed.getD a false=true
  exact Z8h _ _ _ hla h1
  by_cases hlb:listed.getD b false=true
  exact Z8h _ _ _ hlb h2;refine⟨λhr=>h1.1 ?_,λi hi o ho=>?_⟩;rw[List.eq_nil_iff_forall_not_mem];intro i hi;have:=Zkk hi;rw[hr]at this;cases this;have hi0:=hi;obtain⟨h0,o',ho',hedge⟩:=mem_ready.1 hi0;rw[ho]at ho';cases ho';have hlt:i<listed.size\/¬ i<listed.size:=zo
  have get1:i≠b->stD P E kp ops (T.bor i) (T.vs i) o (Zjr P E kp (Zoq ops b a) T Q n (listed.setIfInBounds i true)) s:=λhb=>by
   have:=h1.2 i (Z1e hi λe=>absurd e hb) o (by rw[Zze,if_neg (Ne.symm hb),ho]);rw[Zei]at this;exact this
  have get2:i≠a->stD P E kp ops (T.bor i) (T.vs i) o (Zjr P E kp (Zoq ops a b) T Q n (listed.setIfInBounds i true)) s:=λhb=>by
   have:=h2.2 i (Z1e hi λe=>absurd e hb) o (by rw[Zze,if_neg (Ne.symm hb),ho]);rw[Zei]at this;exact this
  have hset:i<listed.size->(listed.setIfInBounds i true).getD i false=true:=λhl=>by
   simp[Array.getD,hl]
  have hin:i<listed.size:=by
   rcases hlt with q|q
   exact q
   exfalso
   simp[Array.getD,q]at h0
  by_cases hia:i=a
  subst hia;exact Zuc (λs' hs'=>Z8h _ _ _ (hset hin) hs') (get1 hab)
  by_cases hib:i=b
  subst hib;exact Zuc (λs' hs'=>Z8h _ _ _ (hset hin) hs') (get2 hia);have hi2:=hall i (List.mem_range.2 (by rw[Array.getElem?_eq_some_iff]at ho;exact ho.1));rw[ho]at hi2
  have e1:Nat.beq i a=false:=by rw[Bool.eq_false_iff];exact λq=>hia (Nat.eq_of_beq_eq_true q)
  have e2:Nat.beq i b=false:=by rw[Bool.eq_false_iff];exact λq=>hib (Nat.eq_of_beq_eq_true q)
  rw[e1,e2,Bool.false_or,Bool.false_or,Bool.or_eq_true]at hi2
  rcases hi2 with hc|hw
  have hc2:Zka (T.bor i) o=.P\/Zka (T.bor i) o=.R\/Zka (T.bor i) o=.L\/Zka (T.bor i) o=.B:=by
   cases hq:Zka (T.bor i) o<;>rw[hq]at hc<;>simp at hc⊢
  obtain⟨u,hu,k1⟩:=(Zwg hc2).1 (get1 hib);obtain⟨u',hu',k2⟩:=(Zwg hc2).1 (get2 hia);rw[Zpla hu' hu]at k2;exact(Zwg hc2).2 ⟨u,hu,ih _ _ k1 k2⟩;rw[List.any_eq_true]at hw;obtain⟨e,he,hq⟩:=hw;rw[Bool.and_eq_true,Bool.or_eq_true]at hq;have hl:=hedge e (zu he) hq.1
  rcases hq.2 with q|q
  rw[Nat.eq_of_beq_eq_true q]at hl;exact absurd hl hla;rw[Nat.eq_of_beq_eq_true q]at hl;exact absurd hl hlb
theorem Zgp{Q:AS->Prop}{T:Told}(b a:Nat):∀ (l:List Nat) (s:AS),Z9q P E kp ops T Q l s->Z9q P E kp (Zoq ops b a) T Q l s
 |[],s,h=>h
 |i::rest,s,h=>by
  rw[Z9q]at h⊢;rw[Zze]
  cases ho:ops[i]? with
  |none=>rw[ho]at h;exact h.elim
  |some o=>
   rw[ho]at h
   by_cases hb:b=i
   rw[if_pos hb]
   show stD P E kp (Zoq ops b a) (T.bor i) (T.vs i) (Z0s a o) _ s
   rw[Zei,Zkv];exact Zuc (λs' hs'=>Zgp b a rest s' hs') h;rw[if_neg hb]
   show stD P E kp (Zoq ops b a) (T.bor i) (T.vs i) o _ s
   rw[Zei];exact Zuc (λs' hs'=>Zgp b a rest s' hs') h
theorem Zifa{id:Nat}{Q:Exit->AS->Prop}{s:AS}(a b:Nat)(ord1 ord2:List Nat)(kp:Kps)(T:Told)(hm:P.follows .mixedOrders=true)(hG:GOk E.G)(hd:(ops.all (Zpe E.n))=true)(hsp:Zo1 ops T.bor a b=true)
  (hok1:Ze2 (Zoq ops b a) T.bor [] ord1=true) (hall1:(List.range ops.size).all (λj=>ord1.any (Nat.beq j))=true) (hlen1:Nat.beq ord1.length ops.size=true)
  (hok2:Ze2 (Zoq ops a b) T.bor [] ord2=true) (hall2:(List.range ops.size).all (λj=>ord2.any (Nat.beq j))=true) (hlen2:Nat.beq ord2.length ops.size=true)
  (h1:opsO P E kp ops (Q .normal) T ord1 s) (h2:opsO P E kp ops (Q .normal) T ord2 s):AW P E (.region id ops true) Q s:=by
 intro w0 w hs;refine wpIn_region_any hm ?_
 have hs':Sat E s w0 { w with drawn:=w.drawn+1 }:=by
  obtain⟨X,hX⟩:=hs;have hg:=Goes.drew hX.go.inv (w.drawn+1);refine⟨{ X with w:={ X.w with drawn:=X.w.drawn+1 } },by simp only;rw[hX.hw],?_,hX.df.go hX.go.inv (Goes.drew hX.go.inv _),hX.sz,λt=>?_,λg=>?_⟩;have:=hg;rw[<- hX.hw]at this;exact hX.go.trans this;have:=hg.le;rw[<- hX.hw]at this;exact(hX.tm t).mono this;have:=hg;rw[<- hX.hw]at this;exact(hX.gl g).go hX.go.inv this
 have one:∀ (b a:Nat) (ord:List Nat),Ze2 (Zoq ops b a) T.bor [] ord=true->(List.range ops.size).all (λj=>ord.any (Nat.beq j))=true->Nat.beq ord.length ops.size=true->opsO P E kp ops (Q .normal) T ord s ->
   Zjr P E kp (Zoq ops b a) T (Q .normal) ops.size (Array.replicate ops.size false) s:=by
  intro b a ord hok hall hlen h
  have hc:Closed (Zoq ops b a) (Array.replicate ops.size false):=by
   intro k o _ hk
   exfalso
   simp only[Array.getD_eq_getD_getElem?,Array.getElem?_replicate]at hk
   split at hk<;>simp at hk
  have hany:=Z4j (P:=P) (E:=E) (kp:=kp) (T:=T) (Q:=Q .normal) ord [] (Array.replicate ops.size false) s (λk hk=>by cases hk) (λj hj=>.inr (by
   rw[List.all_eq_true]at hall;rw[Znq]at hj
   exact Z7h.1 (hall j (List.mem_range.2 hj)))) ⟨by simp[Znq],λj hj=>by rw[Znq]at hj;simp[hj]⟩ hc hok (Zgp b a _ _ (Zfp ord s h))
  rw[Nat.eq_of_beq_eq_true hlen]at hany;exact hany
 have hany:=Z0ca hsp _ _ _ (one b a ord1 hok1 hall1 hlen1 h1) (one a b ord2 hok2 hall2 hlen2 h2);exact Z9k hG (R:=Post E Q) (λch a w h=>.inr ⟨ch,rfl,h⟩) (λs a w h1 h2=>.inl ⟨s,h1,h2⟩) hd ops.size _ s w0 _ hs' hany
end
end Go.Hs
