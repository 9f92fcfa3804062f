/- A part. No condition. -/
import Derived.Test.YtoahejkahaimnaaGreatDoorP14
import Derived.OrdersIn
set_option linter.all false
namespace Go.Hs
section
variable{P:Program}{E:Ent}{ops:Array Oper}{kp:Kps}
structure Told where
 vs:Nat->V
 bor:Nat->Md
def Zbm(P:Program)(E:Ent)(kp:Kps)(ops:Array Oper)(T:Told)(Q:AS->Prop):Nat->Array Bool->AS->Prop
 |0,listed,s=>Region.ready .any ops listed=[]/\Q s
 |fuel+1,listed,s=>(Region.ready .any ops listed=[]->Q s) /\
  ∀ i∈Region.ready .any ops listed,∀ o,ops[i]?=some o->stD P E kp ops (T.bor i) (T.vs i) o (Zbm P E kp ops T Q fuel (listed.setIfInBounds i true)) s
theorem Zxm(hG:GOk E.G){T:Told}{Q:AS->Prop}{R:Exit->Act->World->Prop}(hP:∀ ch a w,Pan E ch a w->R (.panic ch) a w)(hR:∀ s a w,Sat E s a w->Q s->R .normal a w)(hd:(ops.all (Z7b E.n))=true):
  ∀ (fuel:Nat) (listed:Array Bool) (s:AS) (a:Act) (w:World),Sat E s a w->Zbm P E kp ops T Q fuel listed s->wpAnyIn E.rk.F 0 P .any ops R fuel listed a w
 |0,listed,s,a,w,hs,h=>⟨h.1,hR s a w hs h.2⟩
 |fuel+1,listed,s,a,w,hs,h=>by
  refine⟨λhr=>hR s a w hs (h.1 hr),λi hi=>?_⟩;obtain⟨_,o,ho,_⟩:=mem_ready.1 hi;have hst:=h.2 i hi o ho;obtain⟨X,hX⟩:=hs
  have hmem:∀ (o':Oper) d,o'∈ops->o'.dst=some d->d<E.n:=by
   intro o' d hm hdst;rw[Array.all_eq_true']at hd;have:=hd o' hm;unfold Z7b at this;rw[hdst]at this;simpa using this
  have hko:o∈ops:=by rw[Array.getElem?_eq_some_iff]at ho;obtain⟨hlt,rfl⟩:=ho;exact Array.getElem_mem hlt
  unfold wpOpIn;simp only[ho];unfold stD at hst
  cases hwa:Zz ops s.τ o with
  |none=>rw[hwa]at hst;exact hst.elim
  |some b=>
   have hb:=Ztc hX hwa hmem;rw[hwa]at hst;rw[hb]
   cases b with
   |true=>
    simp only[if_true]at hst⊢;refine Zog _ (Zfm (Zxk hG hst)) (Oper.wp_mono ?_ (Zjj hX (λd hdst=>hmem o d hko hdst) (Zxk hG hst) hP));rintro a' w' ⟨v,H',hk',hs'⟩;exact Zxm hG hP hR hd fuel _ _ _ _ hs' hk'
   |false=>
    simp only[Bool.false_eq_true,if_false]at hst⊢;refine⟨λ_ _=>trivial,?_⟩;refine Zxm hG hP hR hd fuel _ _ _ _ ⟨X,?_⟩ hst;have:=hX.step (Goes.refl hX.go.inv) (dst:=o.dst) (c:=undef) (v:=.tuple []) (.tuple #[] [] rfl (λi h1 h2=>by simp at h2)) (λd hdst=>hmem o d hko hdst);rw[hX.hw]at this;exact this
def Z4n(P:Program)(E:Ent)(kp:Kps)(ops:Array Oper)(T:Told)(Q:AS->Prop):List Nat->AS->Prop
 |[],s=>Q s
 |i::rest,s=>match ops[i]? with
  |some o=>stD P E kp ops (T.bor i) (T.vs i) o (Z4n P E kp ops T Q rest) s
  |none=>False
def Z3k(ops:Array Oper)(bor:Nat->Md)(c:Cls)(i:Nat)(o:Oper):Nat->Nat->List Oper->Bool
 |_,_,[]=>true
 |D,j,oj::rest=>
  cond (oj.after.toList.any λe=>Region.binds .any e&&(Nat.beq e.on i||D.testBit e.on)) (Z3k ops bor c i o (D+2^j) (j+1) rest)
   (Zph c (Zba (bor j) oj)&&(o.apart ops oj&&Z3k ops bor c i o D (j+1) rest))
def Zcn(ops:Array Oper)(bor:Nat->Md):Nat->List Oper->Bool
 |_,[]=>true
 |i,o::rest=>
  (o.after.toList.all λe => !Region.binds .any e||Nat.blt e.on i) &&
  ((match Zba (bor i) o with
   |.W=>rest.all λoj=>oj.after.toList.any λe=>Region.binds .any e&&Nat.ble i e.on
   |c=>Z3k ops bor c i o 0 (i+1) rest) &&
  Zcn ops bor (i+1) rest)
def Closed(ops:Array Oper)(listed:Array Bool):Prop:=
 ∀ k o,ops[k]?=some o->listed.getD k false=true->∀ e∈o.after,Region.binds .any e=true->listed.getD e.on false=true
theorem Closed.set{listed:Array Bool}(h:Closed ops listed){i:Nat}(hi:i∈Region.ready .any ops listed):Closed ops (listed.setIfInBounds i true):=by
 intro k o ho hk e he hb;obtain⟨_,oi,hoi,hall⟩:=mem_ready.1 hi
 by_cases hki:k=i
 subst hki;rw[ho]at hoi;cases hoi;have:=hall e he hb;exact getD_set_true this;rw[getD_set_ne false (Ne.symm hki)]at hk;exact getD_set_true (h k o ho hk e he hb)
def Zsia(ops:Array Oper)(i:Nat)(D:Nat->Bool):Prop:=
 ∀ j oj,ops[j]?=some oj->D j=true->∃ e∈oj.after,Region.binds .any e=true/\(e.on=i\/(e.on<j/\D e.on=true))
theorem Z3m{listed:Array Bool}(hc:Closed ops listed){i:Nat}(hi:listed.getD i false=false){D:Nat->Bool}(hD:Zsia ops i D):
  ∀ j,j<ops.size->D j=true->(∀ o,ops[j]?=some o->∀ e∈o.after,Region.binds .any e=true->listed.getD e.on false=true)->False:=by
 intro j
 induction j using Nat.strongRecOn with
 |_ j ih=>
  intro hjs hj hall;obtain⟨e,he,hb,h1|⟨h1,h2⟩⟩:=hD j _ (Array.getElem?_eq_getElem hjs) hj;have:=hall _ (Array.getElem?_eq_getElem hjs) e he hb;rw[h1,hi]at this;cases this;have hl:=hall _ (Array.getElem?_eq_getElem hjs) e he hb;exact ih e.on h1 zo h2 (λo ho e' he' hb'=>hc e.on o ho hl e' he' hb')
def Z2oa(ops:Array Oper)(bor:Nat->Md)(D:Nat->Bool)(i:Nat)(oi:Oper)(listed:Array Bool):Prop:=
 ∀ j oj,ops[j]?=some oj->j≠i->listed.getD j true=false->D j=false->Zph (Zba (bor i) oi) (Zba (bor j) oj)=true/\oi.apart ops oj=true
theorem Zcoa{bor:Md}{v:V}{o:Oper}{K:AS->Prop}{s:AS}(hc:Zba bor o ≠ .W)(h:stD P E kp ops bor v o K s):∃ s',K s':=by
 by_cases hi:Zba bor o=.P\/Zba bor o=.R\/Zba bor o=.L\/Zba bor o=.B
 rw[Zhg hi]at h;obtain⟨u,_,h2⟩:=h;exact⟨_,h2⟩
 have hA:Zba bor o=.A:=by cases hcl:Zba bor o<;>simp[hcl]at hi hc⊢
 unfold stD at h
 split at h
 unfold Znb at h;simp only[hA]at h;obtain⟨d,u,mk,_,_,hk,_⟩:=Z0g hA h.2;exact⟨_,hk 0⟩;exact⟨_,h⟩;exact h.elim
theorem Z3aa{T:Told}{Q:AS->Prop}{i:Nat}{oi:Oper}(hoi:ops[i]?=some oi)(hcl:Zba (T.bor i) oi ≠ .W){D:Nat->Bool}(hD:Zsia ops i D):
  ∀ (n:Nat) (listed:Array Bool) (s:AS),Closed ops listed->i∈Region.ready .any ops listed->Z2oa ops T.bor D i oi listed ->
   stD P E kp ops (T.bor i) (T.vs i) oi (Zbm P E kp ops T Q n (listed.setIfInBounds i true)) s->Zbm P E kp ops T Q (n+1) listed s:=by
 intro n
 have hlow:∀ (listed:Array Bool),i∈Region.ready .any ops listed->listed.getD i false=false:=by
  intro listed hi;have h0:=(mem_ready.1 hi).1
  by_cases hlt:i<listed.size
  simp[Array.getD,hlt]at h0⊢;exact h0;simp[Array.getD,hlt]
 have hdep:∀ (listed:Array Bool),Closed ops listed->i∈Region.ready .any ops listed->∀ j,j∈Region.ready .any ops listed->D j=false:=by
  intro listed hc hi j hj;obtain⟨_,oj,hoj,hall⟩:=mem_ready.1 hj
  have hjs:j<ops.size:=by rw[Array.getElem?_eq_some_iff]at hoj;exact hoj.1
  cases hDj:D j with
  |false=>rfl
  |true=>exact(Z3m hc (hlow listed hi) hD j hjs hDj (λo ho e he hb=>by rw[hoj]at ho;cases ho;exact hall e he hb)).elim
 induction n with
 |zero=>
  intro listed s hc hi hf h;refine⟨λhr=>(by rw[hr]at hi;cases hi),λj hj oj hoj=>?_⟩
  by_cases hji:j=i
  subst hji;rw[hoi]at hoj;cases hoj;exact h;obtain⟨s',h1,_⟩:=Zcoa hcl h;have:=ready_mono (md:=.any) hj hji;rw[h1]at this;cases this
 |succ n ih=>
  intro listed s hc hi hf h;refine⟨λhr=>(by rw[hr]at hi;cases hi),λj hj oj hoj=>?_⟩
  by_cases hji:j=i
  subst hji;rw[hoi]at hoj;cases hoj;exact h;have hju:listed.getD j true=false:=(mem_ready.1 hj).1;obtain⟨hcomp,hap⟩:=hf j oj hoj hji hju (hdep listed hc hi j hj)
  have h1:stD P E kp ops (T.bor i) (T.vs i) oi (stD P E kp ops (T.bor j) (T.vs j) oj (Zbm P E kp ops T Q n ((listed.setIfInBounds i true).setIfInBounds j true))) s:=
   Zfc (λs' hs'=>hs'.2 j (ready_mono hj hji) oj hoj) h
  have h2:=Zm5 hap hcomp h1;refine Zfc (λs' hs'=>?_) h2;refine ih (listed.setIfInBounds j true) s' (hc.set hj) (ready_mono hi (Ne.symm hji)) ?_ ?_;intro k ok hok hki hku hkD;refine hf k ok hok hki ?_ hkD
  by_cases hkj:k=j
  subst hkj;exact hju;rw[getD_set_ne true (Ne.symm hkj)]at hku;exact hku;rw[Array.setIfInBounds_comm _ _ hji];exact hs'
theorem Zdn{D j:Nat}(h:D<2^j)(k:Nat):(D+2^j).testBit k=(decide (k=j)||D.testBit k):=by
 rw[Nat.add_comm]
 rcases Nat.lt_trichotomy k j with h1|h1|h1
 rw[Nat.testBit_two_pow_add_gt h1];simp;omega;subst h1;rw[Nat.testBit_two_pow_add_eq,Nat.testBit_lt_two_pow h];simp;rw[Nat.testBit_lt_two_pow,Nat.testBit_lt_two_pow];simp;omega;exact Nat.lt_of_lt_of_le h (Nat.pow_le_pow_right zo zo);have:2^(j+1)<=2^k:=Nat.pow_le_pow_right zo zo;rw[Nat.pow_succ]at this;omega
theorem Zxn{bor:Nat->Md}{c:Cls}{i:Nat}{o:Oper}:∀ (rest:List Oper) (D j:Nat),(∀ k,rest[k]?=ops[j+k]?)->D<2^j ->
  (∀ k ok,k<j->ops[k]?=some ok->D.testBit k=true->∃ e∈ok.after,Region.binds .any e=true/\(e.on=i\/(e.on<k/\D.testBit e.on=true))) ->
  Z3k ops bor c i o D j rest=true ->
  ∃ D':Nat->Bool,(∀ k,k<j->D' k=D.testBit k)/\Zsia ops i D'/\∀ k ok,j<=k->ops[k]?=some ok->D' k=false->Zph c (Zba (bor k) ok)=true/\o.apart ops ok=true
 |[],D,j,hl,hD,hw,_=>by
  have hn:∀ k,j<=k->ops[k]?=none:=λk hk=>by have:=hl (k-j);rw[show j+(k-j)=k by omega]at this;rw[<- this];rfl
  refine⟨λk=>decide (k<j)&&D.testBit k,λk hk=>by simp[hk],λk ok hok hDk=>?_,λk ok hk hok=>by rw[hn k hk]at hok;cases hok⟩
  have hkj:k<j:=by
   rcases Nat.lt_or_ge k j with h|h
   exact h;rw[hn k h]at hok;cases hok
  simp only[Bool.and_eq_true,decide_eq_true_eq]at hDk;obtain⟨e,he,hb,h⟩:=hw k ok hkj hok hDk.2;refine⟨e,he,hb,?_⟩
  rcases h with h|⟨h1,h2⟩
  exact .inl h;exact .inr ⟨h1,by simp only[Bool.and_eq_true,decide_eq_true_eq];exact⟨zo,h2⟩⟩
 |oj::rest,D,j,hl,hD,hw,h=>by
  have hoj:ops[j]?=some oj:=by have:=hl 0;simpa using this.symm
  have hl':∀ k,rest[k]?=ops[j+1+k]? := λk=>by have:=hl (k+1);rw[show j+1+k=j+(k+1) by omega];simpa using this
  have hp:2^(j+1)=2^j+2^j:=by rw[Nat.pow_succ];omega
  simp only[Z3k]at h
  cases hany:(oj.after.toList.any λe=>Region.binds .any e&&(Nat.beq e.on i||D.testBit e.on))with
  |true=>
   rw[hany,cond_true]at h;have hbit:=Zdn hD
   obtain⟨D',h1,h2,h3⟩:=Zxn rest (D+2^j) (j+1) hl' zo (by
    intro k ok hk hok hbk;rw[hbit,Bool.or_eq_true,decide_eq_true_eq]at hbk
    by_cases hkj:k=j
    subst hkj;rw[hoj]at hok;cases hok;rw[List.any_eq_true]at hany;obtain⟨e,he,hh⟩:=hany;simp only[Bool.and_eq_true,Bool.or_eq_true]at hh;refine⟨e,zu he,hh.1,?_⟩
    rcases hh.2 with hh|hh
    exact .inl (Nat.eq_of_beq_eq_true hh);refine .inr ⟨?_,by rw[hbit,hh];simp⟩
    rcases Nat.lt_or_ge e.on k with h5|h5
    exact h5;rw[Nat.testBit_lt_two_pow (Nat.lt_of_lt_of_le hD (Nat.pow_le_pow_right zo h5))]at hh;cases hh;obtain⟨e,he,hb,hh⟩:=hw k ok zo hok (hbk.resolve_left hkj);refine⟨e,he,hb,?_⟩
    rcases hh with hh|⟨hh1,hh2⟩
    exact .inl hh
    exact .inr ⟨hh1,by rw[hbit,hh2];simp⟩) h
   refine⟨D',λk hk=>?_,h2,λk ok hk hok hDk=>?_⟩;rw[h1 k zo,hbit];simp;omega;refine h3 k ok ?_ hok hDk
   by_cases hkj:k=j
   subst hkj;rw[h1 k zo,hbit]at hDk;simp at hDk;omega
  |false=>
   rw[hany,cond_false]at h;simp only[Bool.and_eq_true]at h;obtain⟨hcomp,hap,h⟩:=h
   obtain⟨D',h1,h2,h3⟩:=Zxn rest D (j+1) hl' zo (by
    intro k ok hk hok hbk
    by_cases hkj:k=j
    subst hkj;rw[Nat.testBit_lt_two_pow hD]at hbk;cases hbk
    exact hw k ok zo hok hbk) h
   refine⟨D',λk hk=>h1 k zo,h2,λk ok hk hok hDk=>?_⟩
   by_cases hkj:k=j
   subst hkj;rw[hoj]at hok;cases hok;exact⟨hcomp,hap⟩;exact h3 k ok zo hok hDk
def ListedTo(ops:Array Oper)(i:Nat)(listed:Array Bool):Prop:=listed.size=ops.size/\∀ j,j<ops.size->listed[j]?=some (decide (j<i))
theorem ListedTo.next{i:Nat}{listed:Array Bool}(h:ListedTo ops i listed):ListedTo ops (i+1) (listed.setIfInBounds i true):=by
 refine⟨by rw[Array.size_setIfInBounds];exact h.1,λj hj=>?_⟩;rw[Array.getElem?_setIfInBounds]
 by_cases hij:i=j
 subst hij;rw[if_pos rfl,if_pos (by rw[h.1];exact hj)];simp;rw[if_neg hij,h.2 j hj]
 congr 1
 exact decide_eq_decide.2 zo
theorem ListedTo.getD{i:Nat}{listed:Array Bool}(h:ListedTo ops i listed){j:Nat}(hj:j<ops.size)(b:Bool):listed.getD j b=decide (j<i):=by
 rw[Array.getD_eq_getD_getElem?,h.2 j hj];rfl
theorem Zsh{T:Told}{Q:AS->Prop}:∀ (rest:List Oper) (i:Nat) (listed:Array Bool) (s:AS),(∀ k,rest[k]?=ops[i+k]?)->ListedTo ops i listed->Closed ops listed->Zcn ops T.bor i rest=true ->
  Z4n P E kp ops T Q ((List.range rest.length).map (i + ·)) s->Zbm P E kp ops T Q rest.length listed s
 |[],i,listed,s,hl,hL,_,_,h=>by
  refine⟨?_,by simpa[Z4n]using h⟩;rw[List.eq_nil_iff_forall_not_mem];intro j hj;obtain⟨h0,o,ho,_⟩:=mem_ready.1 hj
  have hjs:j<ops.size:=by rw[Array.getElem?_eq_some_iff]at ho;exact ho.1
  rw[hL.getD hjs]at h0;have:=hl (j-i);simp only[decide_eq_false_iff_not]at h0;rw[show i+(j-i)=j by omega,ho]at this;simp at this
 |o::rest,i,listed,s,hl,hL,hc,hok,h=>by
  have hoi:ops[i]?=some o:=by have:=hl 0;simpa using this.symm
  have his:i<ops.size:=by rw[Array.getElem?_eq_some_iff]at hoi;exact hoi.1
  have hl':∀ k,rest[k]?=ops[i+1+k]? := λk=>by have:=hl (k+1);rw[show i+1+k=i+(k+1) by omega];simpa using this
  have hrange:(List.range (o::rest).length).map (i + ·)=i::(List.range rest.length).map (i+1 + ·):=by
   simp only[List.length_cons,List.range_succ_eq_map,List.map_cons,Nat.add_zero,List.map_map]
   congr 1
   apply List.map_congr_left;intro k _;simp;omega
  rw[hrange]at h;simp only[Z4n,hoi]at h;simp only[Zcn,Bool.and_eq_true]at hok;obtain⟨hr,hif,hrest⟩:=hok
  have hi:i∈Region.ready .any ops listed:=by
   refine mem_ready.2 ⟨by rw[hL.getD his];simp,o,hoi,λe he hb=>?_⟩;rw[List.all_eq_true]at hr;have:=hr e (zu he);rw[hb]at this;simp only[Bool.not_true,Bool.false_or,Nat.blt_eq]at this;rw[hL.getD zo];simpa using this
  have ih:∀ s',Z4n P E kp ops T Q ((List.range rest.length).map (i+1 + ·)) s'->Zbm P E kp ops T Q rest.length (listed.setIfInBounds i true) s':=λs' hs'=>Zsh rest (i+1) _ s' hl' hL.next (hc.set hi) hrest hs';have h':=Zfc ih h
  have hbehind:∀ j oj,ops[j]?=some oj->j≠i->listed.getD j true=false->i+1<=j:=by
   intro j oj hoj hji hju;rw[hL.getD (by rw[Array.getElem?_eq_some_iff]at hoj;exact hoj.1)]at hju;simp at hju;omega
  by_cases hW:Zba (T.bor i) o=.W
  rw[hW]at hif;simp only at hif;refine⟨λhr=>(by rw[hr]at hi;cases hi),λj hj oj hoj=>?_⟩
  by_cases hji:j=i
  subst hji;rw[hoi]at hoj;cases hoj;exact h'
  exfalso
  obtain⟨hju,oj',hoj',hall⟩:=mem_ready.1 hj;rw[hoj]at hoj';cases hoj';have hge:=hbehind j oj hoj hji hju;rw[List.all_eq_true]at hif
  have hjr:rest[j-(i+1)]?=some oj:=by rw[hl' (j-(i+1)),show i+1+(j-(i+1))=j by omega,hoj]
  have:=hif oj (List.mem_of_getElem? hjr);rw[List.any_eq_true]at this;obtain⟨e,he,hh⟩:=this;simp only[Bool.and_eq_true,Nat.ble_eq]at hh;have hlst:=hall e (zu he) hh.1
  by_cases hes:e.on<ops.size
  rw[hL.getD hes]at hlst;simp at hlst;omega;rw[Array.getD_eq_getD_getElem?,Array.getElem?_eq_none (by rw[hL.1];omega)]at hlst;simp at hlst
  have hp:Z3k ops T.bor (Zba (T.bor i) o) i o 0 (i+1) rest=true:=by
   revert hif hW
   cases Zba (T.bor i) o<;>first|exact λh _=>h|(intro _ h;exact absurd rfl h)
  obtain⟨D,h1,h2,h3⟩:=Zxn rest 0 (i+1) hl' (Nat.two_pow_pos _) (λk ok _ _ hk=>by simp at hk) hp;exact Z3aa hoi hW h2 rest.length listed s hc hi (λj oj hoj hji hju hDj=>h3 j oj (hbehind j oj hoj hji hju) hoj hDj) h'
theorem Zfda{id:Nat}{Q:Exit->AS->Prop}{s:AS}(hm:P.follows .mixedOrders=true)(hG:GOk E.G)(kp:Kps)(T:Told)(hd:(ops.all (Z7b E.n))=true)
  (hok:Zcn ops T.bor 0 ops.toList=true) (h:Z4n P E kp ops T (Q .normal) (List.range ops.size) s):AW P E (.region id ops true) Q s:=by
 intro a w hs;refine wpIn_region_any hm ?_
 have hs':Sat E s a { w with drawn:=w.drawn+1 }:=by
  obtain⟨X,hX⟩:=hs;have hg:=Goes.drew hX.go.inv (w.drawn+1);refine⟨{ X with w:={ X.w with drawn:=w.drawn+1 } },by simp only;rw[hX.hw],hX.on_ hg,hX.df.go hX.go.inv hg,hX.sz,λt=>(hX.tm t).mono hg.le,λg=>(hX.gl g).go hX.go.inv hg⟩
 have hc:Closed ops (Array.replicate ops.size false):=by
  intro k o _ hk
  exfalso
  simp only[Array.getD_eq_getD_getElem?,Array.getElem?_replicate]at hk
  split at hk<;>simp at hk
 have hany:=Zsh (P:=P) (E:=E) (kp:=kp) (T:=T) (Q:=Q .normal) ops.toList 0 (Array.replicate ops.size false) s (λk=>zS) ⟨zS,λj hj=>by simp[hj]⟩ hc hok (zu h);rw[Array.length_toList]at hany;exact Zxm hG (R:=Post E Q) (λch a w h=>.inr ⟨ch,rfl,h⟩) (λs a w h1 h2=>.inl ⟨s,h1,h2⟩) hd ops.size _ s a _ hs' hany
end
end Go.Hs
