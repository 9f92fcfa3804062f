/- A part. No condition. -/
import Derived.Test.YtoahejkahaimnaaGreatDoorP45
set_option linter.all false
namespace Go.Hs
section
variable{P:Program}{E:Ent}{ops:Array Oper}{kp:Kps}
def Zxr(a:Nat)(o:Oper):Oper:={ o with after:=o.after.push ⟨a,.data⟩ }
def Zpr(ops:Array Oper)(b a:Nat):Array Oper:=ops.modify b (Zxr a)
theorem Zwe(b a i:Nat):(Zpr ops b a)[i]?=if b=i then(ops[i]?).map (Zxr a)else ops[i]? := by
 unfold Zpr;rw[Array.getElem?_modify]
theorem Z5v(b a:Nat):(Zpr ops b a).size=ops.size:=by unfold Zpr;exact Array.size_modify
theorem Zbu(b a:Nat)(τ : Nat->V)(o:Oper):Zz (Zpr ops b a) τ o=Zz ops τ o:=by
 unfold Zz
 cases o.guard with
 |none=>rfl
 |some p=>
  obtain⟨j,want⟩:=p
  have:((Zpr ops b a)[j]?).bind (·.dst)=(ops[j]?).bind (·.dst):=by
   rw[Zwe]
   split
   cases ops[j]? <;> rfl
   rfl
  simp only[this]
theorem Z1h(b a:Nat){bor:Md}{v:V}{o:Oper}{K:AS->Prop}{s:AS}:stD P E kp (Zpr ops b a) bor v o K s=stD P E kp ops bor v o K s:=by
 unfold stD;rw[Zbu]
theorem Zku(a:Nat){bor:Md}{v:V}{o:Oper}{K:AS->Prop}{s:AS}:stD P E kp ops bor v (Zxr a o) K s=stD P E kp ops bor v o K s:=by
 obtain⟨dst,op,type,pos,after,guard⟩:=o;unfold stD;have:Zz ops s.τ (Zxr a ⟨dst,op,type,pos,after,guard⟩)=Zz ops s.τ ⟨dst,op,type,pos,after,guard⟩:=rfl;rw[this]
 cases Zz ops s.τ ⟨dst,op,type,pos,after,guard⟩with
 |none=>rfl
 |some x=>
  cases x with
  |false=>rfl
  |true=>
   show Znb P E kp bor v s _ _=Znb P E kp bor v s _ _
   unfold Znb;have hc:Zba bor (Zxr a ⟨dst,op,type,pos,after,guard⟩)=Zba bor ⟨dst,op,type,pos,after,guard⟩:=rfl;rw[hc]
   have hA:∀ K',Zka P E s (Zxr a ⟨dst,op,type,pos,after,guard⟩) K'=Zka P E s ⟨dst,op,type,pos,after,guard⟩ K':=λK'=>by
    unfold Zka
    cases op<;>rfl
   simp only[hA];rfl
theorem Zxe{b a i:Nat}{listed:Array Bool}(h:i∈Region.ready .any ops listed)(hw:i=b->listed.getD a false=true):i∈Region.ready .any (Zpr ops b a) listed:=by
 obtain⟨h0,o,ho,hall⟩:=mem_ready.1 h;refine mem_ready.2 ⟨h0,?_⟩
 by_cases hb:b=i
 subst hb;refine⟨Zxr a o,by rw[Zwe,if_pos rfl,ho];rfl,λe he hbd=>?_⟩
 rcases Array.mem_push.1 he with q|rfl
 exact hall e q hbd;exact hw rfl;exact⟨o,by rw[Zwe,if_neg hb,ho],hall⟩
theorem Zxj{b a i:Nat}{listed:Array Bool}(h:i∈Region.ready .any (Zpr ops b a) listed):i∈Region.ready .any ops listed:=by
 obtain⟨h0,o,ho,hall⟩:=mem_ready.1 h;rw[Zwe]at ho
 by_cases hb:b=i
 .rw[if_pos hb]at ho
  cases ho2:ops[i]? with
  |none=>rw[ho2]at ho;cases ho
  |some o2=>
   rw[ho2]at ho;cases ho;exact mem_ready.2 ⟨h0,o2,ho2,λe he hbd=>hall e (Array.mem_push.2 (.inl he)) hbd⟩
 rw[if_neg hb]at ho;exact mem_ready.2 ⟨h0,o,ho,hall⟩
theorem Z4s{listed:Array Bool}{a i:Nat}(h:listed.getD a false=true):(listed.setIfInBounds i true).getD a false=true:=by
 by_cases hi:i=a
 subst hi;exact getD_set_true h;rw[getD_set_ne false hi];exact h
theorem Zth{T:Told}{Q:AS->Prop}{b a:Nat}:∀ (n:Nat) (listed:Array Bool) (s:AS),listed.getD a false=true->Zbm P E kp (Zpr ops b a) T Q n listed s->Zbm P E kp ops T Q n listed s
 |0,listed,s,ha,h=>⟨(by
   rw[List.eq_nil_iff_forall_not_mem];intro i hi;have:=Zxe (b:=b) (a:=a) hi λ_=>ha;rw[h.1]at this
   cases this),h.2⟩
 |n+1,listed,s,ha,h=>by
  refine⟨λhr=>h.1 ?_,λi hi o ho=>?_⟩;rw[List.eq_nil_iff_forall_not_mem];intro i hi;have:=Zxj hi;rw[hr]at this;cases this;have hi1:=Zxe (b:=b) (a:=a) hi λ_=>ha
  have key:stD P E kp ops (T.bor i) (T.vs i) o (Zbm P E kp (Zpr ops b a) T Q n (listed.setIfInBounds i true)) s:=by
   by_cases hb:b=i
   have:=h.2 i hi1 (Zxr a o) (by rw[Zwe,if_pos hb,ho];rfl);rw[Z1h,Zku]at this;exact this;have:=h.2 i hi1 o (by rw[Zwe,if_neg hb,ho]);rw[Z1h]at this;exact this
  exact Zfc (λs' hs'=>Zth n _ s' (Z4s ha) hs') key
theorem Zbka{bor:Md}{v:V}{o:Oper}{s:AS}{u u':V}(h:Zyt P E kp ops bor v o s u)(h':Zyt P E kp ops bor v o s u'):u=u':=by
 unfold Zyt at h h'
 cases hw:Zz ops s.τ o with
 |none=>rw[hw]at h;exact h.elim
 |some b=>
  rw[hw]at h h'
  cases b with
  |false=>simp only at h h';rw[h,h']
  |true=>
   obtain⟨dst,op,type,pos,after,guard⟩:=o;cases op
   case load t x=>
    simp only at h h';unfold ldR at h h'
    cases bor<;>simp only at h h'<;>first|(rw[h]at h';exact Option.some.inj h')|(rw[h.2,h'.2])
   case call c=>
    obtain⟨callee,args,ats⟩:=c;cases callee
    case value f=>
     simp only at h h'
     split at h
     rename_i hev;rw[hev]at h';simp only at h';rw[h.1,h'.1];exact h.elim
    all_goals
     simp only at h h';rw[h]at h';exact Option.some.inj h'
   all_goals
    simp only at h h';rw[h]at h';exact Option.some.inj h'
theorem stD_and{bor:Md}{v:V}{o:Oper}{K K':AS->Prop}{s:AS}(hc:Zba bor o=.A)(h:stD P E kp ops bor v o K s)(h':stD P E kp ops bor v o K' s):stD P E kp ops bor v o (λs'=>K s'/\K' s') s:=by
 unfold stD at *
 cases hw:Zz ops s.τ o with
 |none=>rw[hw]at h;exact h
 |some b=>
  rw[hw]at h h'
  cases b with
  |false=>exact⟨h,h'⟩
  |true=>
   simp only at h h'⊢;unfold Znb at *;rw[hc]at h h';simp only[hc]at h h'⊢;obtain⟨d,u,mk,_,_,h1,hiff⟩:=Z0g hc h.2;exact⟨h.1,(hiff s _ λ_ _=>rfl).2 λg=>⟨h1 g,(hiff s _ λ_ _=>rfl).1 h'.2 g⟩⟩
def Zpz(ops:Array Oper)(bor:Nat->Md)(a b:Nat):Bool:=
 !(Nat.beq a b)&&(List.range ops.size).all λi=>Nat.beq i a||(Nat.beq i b||(match ops[i]? with
  |none=>true
  |some o=>(match Zba (bor i) o with|.P|.R|.L|.B|.A=>true|_=>false)||o.after.toList.any λe=>Region.binds .any e&&(Nat.beq e.on a||Nat.beq e.on b)))
theorem Z2aa{T:Told}{Q:AS->Prop}{a b:Nat}(hok:Zpz ops T.bor a b=true):∀ (n:Nat) (listed:Array Bool) (s:AS),
  Zbm P E kp (Zpr ops b a) T Q n listed s->Zbm P E kp (Zpr ops a b) T Q n listed s->Zbm P E kp ops T Q n listed s:=by
 unfold Zpz at hok;rw[Bool.and_eq_true]at hok;obtain⟨hab,hall⟩:=hok
 have hab:a≠b:=by intro e;subst e;simp at hab
 rw[List.all_eq_true]at hall;intro n
 induction n with
 |zero=>
  intro listed s h1 h2;refine⟨?_,h1.2⟩;rw[List.eq_nil_iff_forall_not_mem];intro i hi
  by_cases hb:i=b
  have:=Zxe (b:=a) (a:=b) hi λe=>absurd (e.symm.trans hb) hab;rw[h2.1]at this;cases this;have:=Zxe (b:=b) (a:=a) hi λe=>absurd e hb;rw[h1.1]at this;cases this
 |succ n ih=>
  intro listed s h1 h2
  by_cases hla:listed.getD a false=true
  exact Zth _ _ _ hla h1
  by_cases hlb:listed.getD b false=true
  exact Zth _ _ _ hlb h2;refine⟨λhr=>h1.1 ?_,λi hi o ho=>?_⟩;rw[List.eq_nil_iff_forall_not_mem];intro i hi;have:=Zxj hi;rw[hr]at this;cases this;have hi0:=hi;obtain⟨h0,o',ho',hedge⟩:=mem_ready.1 hi0;rw[ho]at ho';cases ho';have hlt:i<listed.size\/¬ i<listed.size:=zo
  have get1:i≠b->stD P E kp ops (T.bor i) (T.vs i) o (Zbm P E kp (Zpr ops b a) T Q n (listed.setIfInBounds i true)) s:=λhb=>by
   have:=h1.2 i (Zxe hi λe=>absurd e hb) o (by rw[Zwe,if_neg (Ne.symm hb),ho]);rw[Z1h]at this;exact this
  have get2:i≠a->stD P E kp ops (T.bor i) (T.vs i) o (Zbm P E kp (Zpr ops a b) T Q n (listed.setIfInBounds i true)) s:=λhb=>by
   have:=h2.2 i (Zxe hi λe=>absurd e hb) o (by rw[Zwe,if_neg (Ne.symm hb),ho]);rw[Z1h]at this;exact this
  have hset:i<listed.size->(listed.setIfInBounds i true).getD i false=true:=λhl=>by
   simp[Array.getD,hl]
  have hin:i<listed.size:=by
   rcases hlt with q|q
   exact q
   exfalso
   simp[Array.getD,q]at h0
  by_cases hia:i=a
  subst hia;exact Zfc (λs' hs'=>Zth _ _ _ (hset hin) hs') (get1 hab)
  by_cases hib:i=b
  subst hib;exact Zfc (λs' hs'=>Zth _ _ _ (hset hin) hs') (get2 hia);have hi2:=hall i (List.mem_range.2 (by rw[Array.getElem?_eq_some_iff]at ho;exact ho.1));rw[ho]at hi2
  have e1:Nat.beq i a=false:=by rw[Bool.eq_false_iff];exact λq=>hia (Nat.eq_of_beq_eq_true q)
  have e2:Nat.beq i b=false:=by rw[Bool.eq_false_iff];exact λq=>hib (Nat.eq_of_beq_eq_true q)
  rw[e1,e2,Bool.false_or,Bool.false_or,Bool.or_eq_true]at hi2
  rcases hi2 with hc|hw
  by_cases hA:Zba (T.bor i) o=.A
  exact Zfc (λs' hs'=>ih _ _ hs'.1 hs'.2) (stD_and hA (get1 hib) (get2 hia))
  have hc2:Zba (T.bor i) o=.P\/Zba (T.bor i) o=.R\/Zba (T.bor i) o=.L\/Zba (T.bor i) o=.B:=by
   cases hq:Zba (T.bor i) o<;>rw[hq]at hc hA<;>simp at hc hA⊢
  obtain⟨u,hu,k1⟩:=(Zhg hc2).1 (get1 hib);obtain⟨u',hu',k2⟩:=(Zhg hc2).1 (get2 hia);rw[Zbka hu' hu]at k2;exact(Zhg hc2).2 ⟨u,hu,ih _ _ k1 k2⟩;rw[List.any_eq_true]at hw;obtain⟨e,he,hq⟩:=hw;rw[Bool.and_eq_true,Bool.or_eq_true]at hq;have hl:=hedge e (zu he) hq.1
  rcases hq.2 with q|q
  rw[Nat.eq_of_beq_eq_true q]at hl;exact absurd hl hla;rw[Nat.eq_of_beq_eq_true q]at hl;exact absurd hl hlb
theorem Z1j{Q:AS->Prop}{T:Told}(b a:Nat):∀ (l:List Nat) (s:AS),Z4n P E kp ops T Q l s->Z4n P E kp (Zpr ops b a) T Q l s
 |[],s,h=>h
 |i::rest,s,h=>by
  rw[Z4n]at h⊢;rw[Zwe]
  cases ho:ops[i]? with
  |none=>rw[ho]at h;exact h.elim
  |some o=>
   rw[ho]at h
   by_cases hb:b=i
   rw[if_pos hb]
   show stD P E kp (Zpr ops b a) (T.bor i) (T.vs i) (Zxr a o) _ s
   rw[Z1h,Zku];exact Zfc (λs' hs'=>Z1j b a rest s' hs') h;rw[if_neg hb]
   show stD P E kp (Zpr ops b a) (T.bor i) (T.vs i) o _ s
   rw[Z1h];exact Zfc (λs' hs'=>Z1j b a rest s' hs') h
inductive Ways where
 |ord (l:List Nat)
 |fork (a b:Nat) (x y:Ways)
def Zkq(bor:Nat->Md)(n:Nat):Array Oper->Ways->Bool
 |ops,.ord l=>Zbfa ops bor [] l&&((List.range n).all (λj=>l.any (Nat.beq j))&&Nat.beq l.length n)
 |ops,.fork a b x y=>Zpz ops bor a b&&(Zkq bor n (Zpr ops b a) x&&Zkq bor n (Zpr ops a b) y)
def Z9t(P:Program)(E:Ent)(kp:Kps)(ops:Array Oper)(Q:AS->Prop)(T:Told)(s:AS):Ways->Prop
 |.ord l=>opsO P E kp ops Q T l s
 |.fork _ _ x y=>Z9t P E kp ops Q T s x/\Z9t P E kp ops Q T s y
@[go_sem] theorem waysH_ord(Q:AS->Prop)(T:Told)(s:AS)(l:List Nat):Z9t P E kp ops Q T s (.ord l)=opsO P E kp ops Q T l s:=rfl
@[go_sem] theorem Zp7(Q:AS->Prop)(T:Told)(s:AS)(a b:Nat)(x y:Ways):Z9t P E kp ops Q T s (.fork a b x y)=(Z9t P E kp ops Q T s x/\Z9t P E kp ops Q T s y):=rfl
theorem Zbp{T:Told}{Q:AS->Prop}{s:AS}:∀ (w:Ways) (ops':Array Oper),ops'.size=ops.size->(∀ l s,Z4n P E kp ops T Q l s->Z4n P E kp ops' T Q l s)->Zkq T.bor ops.size ops' w=true->Z9t P E kp ops Q T s w ->
  Zbm P E kp ops' T Q ops.size (Array.replicate ops.size false) s
 |.ord ord,ops',hsz,hO,hok,h=>by
  simp only[Zkq,Bool.and_eq_true]at hok;obtain⟨hok,hall,hlen⟩:=hok
  have hc:Closed ops' (Array.replicate ops.size false):=by
   intro k o _ hk
   exfalso
   simp only[Array.getD_eq_getD_getElem?,Array.getElem?_replicate]at hk
   split at hk<;>simp at hk
  have hany:=Zaj (P:=P) (E:=E) (kp:=kp) (T:=T) (Q:=Q) ord [] (Array.replicate ops.size false) s (λk hk=>by cases hk) (λj hj=>.inr (by
   rw[List.all_eq_true]at hall;rw[hsz]at hj
   exact Zrh.1 (hall j (List.mem_range.2 hj)))) ⟨by simp[hsz],λj hj=>by rw[hsz]at hj;simp[hj]⟩ hc hok (hO _ _ (Z3n ord s h))
  rw[Nat.eq_of_beq_eq_true hlen]at hany;exact hany
 |.fork a b x y,ops',hsz,hO,hok,h=>by
  simp only[Zkq,Bool.and_eq_true]at hok;obtain⟨hsp,h1,h2⟩:=hok;exact Z2aa hsp _ _ _ (Zbp x _ (by rw[Z5v,hsz]) (λl s q=>Z1j b a l s (hO l s q)) h1 h.1) (Zbp y _ (by rw[Z5v,hsz]) (λl s q=>Z1j a b l s (hO l s q)) h2 h.2)
theorem Zeda{id:Nat}{Q:Exit->AS->Prop}{s:AS}(w:Ways)(kp:Kps)(T:Told)(hm:P.follows .mixedOrders=true)(hG:GOk E.G)(hd:(ops.all (Z7b E.n))=true)(hok:Zkq T.bor ops.size ops w=true)(h:Z9t P E kp ops (Q .normal) T s w):AW P E (.region id ops true) Q s:=by
 intro w0 w' hs;refine wpIn_region_any hm ?_
 have hs':Sat E s w0 { w' with drawn:=w'.drawn+1 }:=by
  obtain⟨X,hX⟩:=hs;have hg:=Goes.drew hX.go.inv (w'.drawn+1);refine⟨{ X with w:={ X.w with drawn:=X.w.drawn+1 } },by simp only;rw[hX.hw],?_,hX.df.go hX.go.inv (Goes.drew hX.go.inv _),hX.sz,λt=>?_,λg=>?_⟩;have:=hg;rw[<- hX.hw]at this;exact hX.on_ this;have:=hg.le;rw[<- hX.hw]at this;exact(hX.tm t).mono this;have:=hg;rw[<- hX.hw]at this;exact(hX.gl g).go hX.go.inv this
 have hany:=Zbp (P:=P) (E:=E) (kp:=kp) (ops:=ops) (T:=T) (Q:=Q .normal) w ops rfl (λ_ _ q=>q) hok h;exact Zxm hG (R:=Post E Q) (λch a w h=>.inr ⟨ch,rfl,h⟩) (λs a w h1 h2=>.inl ⟨s,h1,h2⟩) hd ops.size _ s w0 _ hs' hany
end
end Go.Hs
