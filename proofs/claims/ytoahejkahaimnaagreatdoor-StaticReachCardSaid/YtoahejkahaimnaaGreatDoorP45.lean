/- A part. No condition. -/
import Derived.Test.YtoahejkahaimnaaGreatDoorP44
set_option linter.all false
namespace Go.Hs
section
variable{P:Program}{E:Ent}{ops:Array Oper}{kp:Kps}
inductive Dep(ops:Array Oper)(i:Nat):Nat->Prop
 |on {j:Nat} {oj:Oper} {e:Edge}:ops[j]?=some oj->e∈oj.after->Region.binds .any e=true->e.on=i->Dep ops i j
 |via {j:Nat} {oj:Oper} {e:Edge}:ops[j]?=some oj->e∈oj.after->Region.binds .any e=true->Dep ops i e.on->Dep ops i j
theorem Zct{listed:Array Bool}(hc:Closed ops listed){i:Nat}(hi:listed.getD i false=false){j:Nat}(hD:Dep ops i j):
  (∀ o,ops[j]?=some o->∀ e∈o.after,Region.binds .any e=true->listed.getD e.on false=true)->False:=by
 induction hD with
 |on hoj he hb hon=>
  intro hall;have:=hall _ hoj _ he hb;rw[hon,hi]at this;cases this
 |via hoj he hb _ ih=>
  intro hall;have hl:=hall _ hoj _ he hb;exact ih λo ho e' he' hb'=>hc _ o ho hl e' he' hb'
theorem Za1{T:Told}{Q:AS->Prop}{i:Nat}{oi:Oper}(hoi:ops[i]?=some oi)(hcl:Zba (T.bor i) oi ≠ .W){D:Nat->Bool}(hD:∀ j,D j=true->Dep ops i j):
  ∀ (n:Nat) (listed:Array Bool) (s:AS),Closed ops listed->i∈Region.ready .any ops listed->Z2oa ops T.bor D i oi listed ->
   stD P E kp ops (T.bor i) (T.vs i) oi (Zbm P E kp ops T Q n (listed.setIfInBounds i true)) s->Zbm P E kp ops T Q (n+1) listed s:=by
 intro n
 have hlow:∀ (listed:Array Bool),i∈Region.ready .any ops listed->listed.getD i false=false:=by
  intro listed hi;have h0:=(mem_ready.1 hi).1
  by_cases hlt:i<listed.size
  simp[Array.getD,hlt]at h0⊢;exact h0;simp[Array.getD,hlt]
 have hdep:∀ (listed:Array Bool),Closed ops listed->i∈Region.ready .any ops listed->∀ j,j∈Region.ready .any ops listed->D j=false:=by
  intro listed hc hi j hj;obtain⟨_,oj,hoj,hall⟩:=mem_ready.1 hj
  cases hDj:D j with
  |false=>rfl
  |true=>exact(Zct hc (hlow listed hi) (hD j hDj) (λo ho e he hb=>by rw[hoj]at ho;cases ho;exact hall e he hb)).elim
 induction n with
 |zero=>
  intro listed s hc hi hf h;refine⟨λhr=>(by rw[hr]at hi;cases hi),λj hj oj hoj=>?_⟩
  by_cases hji:j=i
  subst hji;rw[hoi]at hoj;cases hoj;exact h;obtain⟨s',h1,_⟩:=Zcoa hcl h;have:=ready_mono (md:=.any) hj hji;rw[h1]at this;cases this
 |succ n ih=>
  intro listed s hc hi hf h;refine⟨λhr=>(by rw[hr]at hi;cases hi),λj hj oj hoj=>?_⟩
  by_cases hji:j=i
  subst hji;rw[hoi]at hoj;cases hoj;exact h;have hju:listed.getD j true=false:=(mem_ready.1 hj).1;obtain⟨hcomp,hap⟩:=hf j oj hoj hji hju (hdep listed hc hi j hj)
  have h1:stD P E kp ops (T.bor i) (T.vs i) oi (stD P E kp ops (T.bor j) (T.vs j) oj (Zbm P E kp ops T Q n ((listed.setIfInBounds i true).setIfInBounds j true))) s:=
   Zfc (λs' hs'=>hs'.2 j (ready_mono hj hji) oj hoj) h
  have h2:=Zm5 hap hcomp h1;refine Zfc (λs' hs'=>?_) h2;refine ih (listed.setIfInBounds j true) s' (hc.set hj) (ready_mono hi (Ne.symm hji)) ?_ ?_;intro k ok hok hki hku hkD;refine hf k ok hok hki ?_ hkD
  by_cases hkj:k=j
  subst hkj;exact hju;rw[getD_set_ne true (Ne.symm hkj)]at hku;exact hku;rw[Array.setIfInBounds_comm _ _ hji];exact hs'
def Z6h(ops:Array Oper)(bor:Nat->Md)(c:Cls)(i:Nat)(o:Oper):List Nat->List Nat->Bool
 |_,[]=>true
 |D,j::rest=>match ops[j]? with
  |none=>false
  |some oj=>cond (oj.after.toList.any λe=>Region.binds .any e&&(Nat.beq e.on i||D.any (Nat.beq e.on))) (Z6h ops bor c i o (j::D) rest)
   (Zph c (Zba (bor j) oj)&&(o.apart ops oj&&Z6h ops bor c i o D rest))
def Zbfa(ops:Array Oper)(bor:Nat->Md):List Nat->List Nat->Bool
 |_,[]=>true
 |done,i::rest=>match ops[i]? with
  |none=>false
  |some o=>(o.after.toList.all λe => !Region.binds .any e||done.any (Nat.beq e.on))&&(!done.any (Nat.beq i) &&
   ((match Zba (bor i) o with
    |.W=>rest.all λj=>match ops[j]? with|none=>false|some oj=>oj.after.toList.any λe=>Region.binds .any e && !done.any (Nat.beq e.on)
    |c=>Z6h ops bor c i o [] rest)&&Zbfa ops bor (i::done) rest))
theorem Zrh{l:List Nat}{n:Nat}:l.any (Nat.beq n)=true↔n∈l:=by
 rw[List.any_eq_true]
 constructor
 rintro⟨x,hx,h⟩;rw[Nat.eq_of_beq_eq_true h];exact hx;intro h;exact⟨n,h,Nat.beq_refl n⟩
theorem Z6g{bor:Nat->Md}{c:Cls}{i:Nat}{o:Oper}:∀ (rest D:List Nat),(∀ k∈D,Dep ops i k)->Z6h ops bor c i o D rest=true ->
  ∃ D':Nat->Bool,(∀ k,D' k=true->Dep ops i k)/\(∀ k∈D,D' k=true)/\∀ j∈rest,D' j=false->∀ oj,ops[j]?=some oj->Zph c (Zba (bor j) oj)=true/\o.apart ops oj=true
 |[],D,hD,_=>⟨λk=>D.any (Nat.beq k),λk hk=>hD k (Zrh.1 hk),λk hk=>Zrh.2 hk,λj hj=>by cases hj⟩
 |j::rest,D,hD,h=>by
  rw[Z6h]at h
  cases hoj:ops[j]? with
  |none=>rw[hoj]at h;cases h
  |some oj=>
   rw[hoj]at h;simp only at h
   cases hany:(oj.after.toList.any λe=>Region.binds .any e&&(Nat.beq e.on i||D.any (Nat.beq e.on)))with
   |true=>
    rw[hany,cond_true]at h
    have hdj:Dep ops i j:=by
     rw[List.any_eq_true]at hany;obtain⟨e,he,hh⟩:=hany;simp only[Bool.and_eq_true,Bool.or_eq_true]at hh
     rcases hh.2 with hq|hq
     exact .on hoj (zu he) hh.1 (Nat.eq_of_beq_eq_true hq);exact .via hoj (zu he) hh.1 (hD _ (Zrh.1 hq))
    obtain⟨D',h1,h2,h3⟩:=Z6g rest (j::D) (λk hk=>by
     rcases List.mem_cons.1 hk with rfl|hk
     exact hdj
     exact hD k hk) h
    refine⟨D',h1,λk hk=>h2 k (List.mem_cons_of_mem _ hk),λk hk hDk=>?_⟩
    rcases List.mem_cons.1 hk with rfl|hk
    rw[h2 k (List.mem_cons_self ..)]at hDk;cases hDk;exact h3 k hk hDk
   |false=>
    rw[hany,cond_false]at h;simp only[Bool.and_eq_true]at h;obtain⟨hcomp,hap,h⟩:=h;obtain⟨D',h1,h2,h3⟩:=Z6g rest D hD h;refine⟨D',h1,h2,λk hk hDk ok hok=>?_⟩
    rcases List.mem_cons.1 hk with rfl|hk
    rw[hoj]at hok;cases hok;exact⟨hcomp,hap⟩;exact h3 k hk hDk ok hok
def ListedL(ops:Array Oper)(done:List Nat)(listed:Array Bool):Prop:=listed.size=ops.size/\∀ j,j<ops.size->(listed[j]?=some true↔j∈done)/\(listed[j]?=some false↔j∉done)
theorem ListedL.getD{done:List Nat}{listed:Array Bool}(h:ListedL ops done listed){j:Nat}(hj:j<ops.size)(b:Bool):(listed.getD j b=true↔j∈done):=by
 obtain⟨h1,h2⟩:=h.2 j hj;rw[Array.getD_eq_getD_getElem?]
 have hlt:j<listed.size:=by rw[h.1];exact hj
 rw[Array.getElem?_eq_getElem hlt]at h1 h2⊢;simp only[Option.getD_some,Option.some.injEq]at *;exact h1
theorem ListedL.next{done:List Nat}{i:Nat}{listed:Array Bool}(h:ListedL ops done listed)(hi:i<ops.size):ListedL ops (i::done) (listed.setIfInBounds i true):=by
 refine⟨by rw[Array.size_setIfInBounds];exact h.1,λj hj=>?_⟩;rw[Array.getElem?_setIfInBounds];obtain⟨h1,h2⟩:=h.2 j hj
 by_cases hij:i=j
 subst hij;rw[if_pos rfl,if_pos (by rw[h.1];exact hj)];simp;rw[if_neg hij,h1,h2];simp only[List.mem_cons,not_or];exact⟨⟨.inr,λq=>q.resolve_left (Ne.symm hij)⟩,⟨λq=>⟨Ne.symm hij,q⟩,λq=>q.2⟩⟩
theorem Zaj{T:Told}{Q:AS->Prop}:∀ (rest done:List Nat) (listed:Array Bool) (s:AS),(∀ k∈done,k<ops.size)->(∀ j,j<ops.size->j∈done\/j∈rest)->ListedL ops done listed->Closed ops listed->Zbfa ops T.bor done rest=true ->
  Z4n P E kp ops T Q rest s->Zbm P E kp ops T Q rest.length listed s
 |[],done,listed,s,_,hall,hL,_,_,h=>by
  refine⟨?_,h⟩;rw[List.eq_nil_iff_forall_not_mem];intro j hj;obtain⟨h0,o,ho,_⟩:=mem_ready.1 hj
  have hjs:j<ops.size:=by rw[Array.getElem?_eq_some_iff]at ho;exact ho.1
  have hjd:j∈done:=by
   rcases hall j hjs with q|q
   exact q;cases q
  have:=(hL.getD hjs true).2 hjd;rw[this]at h0;cases h0
 |i::rest,done,listed,s,hdone,hall,hL,hc,hok,h=>by
  rw[Zbfa]at hok
  cases hoi:ops[i]? with
  |none=>rw[hoi]at hok;cases hok
  |some o=>
  rw[hoi]at hok;simp only[Bool.and_eq_true]at hok;obtain⟨hr,hnd,hif,hrest⟩:=hok
  have his:i<ops.size:=by rw[Array.getElem?_eq_some_iff]at hoi;exact hoi.1
  have hnd:i∉done:=by
   intro hq;rw[Zrh.2 hq]at hnd;cases hnd
  simp only[Z4n,hoi]at h
  have hi:i∈Region.ready .any ops listed:=by
   refine mem_ready.2 ⟨?_,o,hoi,λe he hb=>?_⟩
   .cases hq:listed.getD i true with
    |false=>rfl
    |true=>exact absurd ((hL.getD his true).1 hq) hnd
   rw[List.all_eq_true]at hr;have:=hr e (zu he);rw[hb]at this;simp only[Bool.not_true,Bool.false_or]at this;have hm:=Zrh.1 this
   by_cases hes:e.on<ops.size
   exact(hL.getD hes false).2 hm;exact absurd (hdone _ hm) hes
  have ih:∀ s',Z4n P E kp ops T Q rest s'->Zbm P E kp ops T Q rest.length (listed.setIfInBounds i true) s':=λs' hs'=>Zaj rest (i::done) _ s' (λk hk=>by
   rcases List.mem_cons.1 hk with rfl|hk
   exact his
   exact hdone k hk) (λj hj=>by
   rcases hall j hj with q|q
   exact .inl (List.mem_cons_of_mem _ q)
   rcases List.mem_cons.1 q with rfl|q
   exact .inl (List.mem_cons_self ..)
   exact .inr q) (hL.next his) (hc.set hi) hrest hs'
  have h':=Zfc ih h
  have hbehind:∀ j oj,ops[j]?=some oj->j≠i->listed.getD j true=false->j∈rest:=by
   intro j oj hoj hji hju
   have hjs:j<ops.size:=by rw[Array.getElem?_eq_some_iff]at hoj;exact hoj.1
   rcases hall j hjs with q|q
   rw[(hL.getD hjs true).2 q]at hju;cases hju;exact(List.mem_cons.1 q).resolve_left hji
  by_cases hW:Zba (T.bor i) o=.W
  rw[hW]at hif;simp only at hif;refine⟨λhr=>(by rw[hr]at hi;cases hi),λj hj oj hoj=>?_⟩
  by_cases hji:j=i
  subst hji;rw[hoi]at hoj;cases hoj;exact h'
  exfalso
  obtain⟨hju,oj',hoj',hall'⟩:=mem_ready.1 hj;rw[hoj]at hoj';cases hoj';rw[List.all_eq_true]at hif;have:=hif j (hbehind j oj hoj hji hju);rw[hoj]at this;simp only[List.any_eq_true,Bool.and_eq_true]at this;obtain⟨e,he,hb,hnot⟩:=this;have hlst:=hall' e (zu he) hb
  by_cases hes:e.on<ops.size
  have:=Zrh.2 ((hL.getD hes false).1 hlst);rw[this]at hnot;cases hnot;rw[Array.getD_eq_getD_getElem?,Array.getElem?_eq_none (by rw[hL.1];omega)]at hlst;simp at hlst
  have hp:Z6h ops T.bor (Zba (T.bor i) o) i o [] rest=true:=by
   revert hif hW
   cases Zba (T.bor i) o<;>first|exact λh _=>h|(intro _ h;exact absurd rfl h)
  obtain⟨D,h1,_,h3⟩:=Z6g rest [] (λk hk=>by cases hk) hp;exact Za1 hoi hW h1 rest.length listed s hc hi (λj oj hoj hji hju hDj=>h3 j (hbehind j oj hoj hji hju) hDj oj hoj) h'
theorem Zula{ops:Array Oper}{Q:AS->Prop}{T:Told}(o:Oper)(k:Nat)(s:AS)(h:Zbc P E kp ops Q T k [o] s):stD P E kp ops (T.bor k) (T.vs k) o Q s:=by
 have ih:∀ s',Zbc P E kp ops Q T (k+1) [] s'->Q s':=λ_ h=>h;unfold stD;simp only[Zbc]at h
 cases hw:Zz ops s.τ o with
 |none=>rw[hw]at h;exact h.elim
 |some b=>
  rw[hw]at h
  cases b with
  |false=>exact h
  |true=>
   simp only[Zkh]at h⊢
   split at h
   .rename_i f args ats hop
    obtain⟨dst,op,type,pos,after,guard⟩:=o;simp only at hop;subst hop
    cases hb:T.bor k with
    |any=>
     rw[hb,Zg0]at h;have h2':=Zqa (K':=λu H'=>KpH P kp H'/\Q (AS.put { s with H:=H' } dst u)) (λv H' hk'=>Z6k.1 hk') h;unfold Znb;exact h2'
    |keep=>
     rw[hb,Zts]at h;have h2':=Zqa (K':=λu H'=>KpH P kp H'/\Q (AS.put { s with H:=H' } dst u)) (λv H' hk'=>Z6k.1 hk') h;unfold Znb;exact h2'
    |lend=>
     rw[hb]at h;obtain⟨h1,h2⟩:=h;unfold Zbn at h1;unfold Znb
     split at h1
     rename_i fid first cap hf;simp only[Zba,hf];exact⟨h1,h2⟩;exact h1.elim
    |pure=>
     rw[hb]at h;obtain⟨h1,h2⟩:=h;unfold Zbn at h1;unfold Znb
     split at h1
     rename_i fid first cap hf;simp only[Zba,hf];exact⟨h1,h2⟩;exact h1.elim
    |own=>
     rw[hb]at h;obtain⟨h1,h2⟩:=h;unfold Zbn at h1;unfold Znb
     split at h1
     rename_i fid first cap hf;simp only[Zba,hf];exact⟨h1,h2⟩;exact h1.elim
   .rename_i t x hop
    obtain⟨dst,op,type,pos,after,guard⟩:=o;simp only at hop;subst hop
    cases hb:T.bor k with
    |lend=>
     rw[hb,Zys,Zhj]at h;unfold Znb;simp only[Zba,Zaq]
     cases hv:Zec P t (s.ev E x)with
     |none=>rw[hv]at h;exact h.elim
     |some u=>rw[hv]at h;exact h
    |keep=>
     rw[hb,Zzs]at h;unfold Znb;simp only[Zba,Zaq];exact h
    |pure=>
     rw[hb,Zxs]at h;unfold Znb;exact h
    |own=>
     rw[hb,Zk0]at h;unfold Znb;exact h
    |any=>
     rw[hb,Zl0]at h;unfold Znb;exact h
   .rename_i hne hnl
    obtain⟨h1,h2⟩:=h
    have tame:Zij o=true->Zka P E s o λv H'=>Q (AS.put { s with H:=H' } o.dst v):=λht=>
     Zqa (λv H' hk'=>(by rw[ht]at hk';exact hk')) h2
    have wild:Zij o=false->Zka P E s o λv H'=>KpH P kp H'/\Q (AS.put { s with H:=H' } o.dst v):=λht=>
     Zqa (λv H' hk'=>(by rw[ht]at hk';exact Z6k.1 hk')) h2
    obtain⟨dst,op,type,pos,after,guard⟩:=o;unfold Znb
    cases op<;>try(first|exact tame rfl|exact wild rfl|exact absurd rfl (hnl _ _))
    case makeMap t r=>
     cases r with
     |some r=>exact wild rfl
     |none=>
      obtain⟨d,hd,hdead⟩:=h1 rfl;simp only at hd;subst hd;exact⟨hdead,tame rfl⟩
    obtain⟨d,hd,hdead⟩:=h1 rfl;simp only at hd;subst hd;exact⟨hdead,tame rfl⟩;obtain⟨d,hd,hdead⟩:=h1 rfl;simp only at hd;subst hd;exact⟨hdead,tame rfl⟩;obtain⟨d,hd,hdead⟩:=h1 rfl;simp only at hd;subst hd;exact⟨hdead,tame rfl⟩;obtain⟨d,hd,hdead⟩:=h1 rfl;simp only at hd;subst hd;exact⟨hdead,tame rfl⟩
    .rename_i c
     obtain⟨callee,args,ats⟩:=c
     cases callee with
     |value f=>exact absurd rfl (hne f args ats)
     |invoke r m=>exact wild rfl
     |builtin b=>cases b<;>first|exact tame rfl|exact wild rfl
def opsO(P:Program)(E:Ent)(kp:Kps)(ops:Array Oper)(Q:AS->Prop)(T:Told):List Nat->AS->Prop
 |[],s=>Q s
 |i::rest,s=>match ops[i]? with
  |some o=>Zbc P E kp ops (opsO P E kp ops Q T rest) T i [o] s
  |none=>False
theorem Z3n{Q:AS->Prop}{T:Told}:∀ (l:List Nat) (s:AS),opsO P E kp ops Q T l s->Z4n P E kp ops T Q l s
 |[],s,h=>h
 |i::rest,s,h=>by
  rw[opsO]at h;rw[Z4n]
  cases ho:ops[i]? with
  |none=>rw[ho]at h;exact h.elim
  |some o=>
   rw[ho]at h;exact Zfc (λs' hs'=>Z3n rest s' hs') (Zula o i s h)
@[go_sem] theorem opsO_nil{Q:AS->Prop}{T:Told}(s:AS):opsO P E kp ops Q T [] s=Q s:=rfl
def Ztla(o:Option Oper)(K:Oper->Prop):Prop:=match o with|some x=>K x|none=>False
@[go_sem] theorem optO'_some(x:Oper)(K:Oper->Prop):Ztla (some x) K=K x:=rfl
@[congr] theorem optO'_congr{o o':Option Oper}{K:Oper->Prop}(h:o=o'):Ztla o K=Ztla o' K:=by rw[h]
@[go_sem] theorem opsO_cons{Q:AS->Prop}{T:Told}(l:List Oper)(i:Nat)(rest:List Nat)(s:AS):opsO P E kp ⟨l⟩ Q T (i::rest) s=Ztla (l[i]?) λo=>Zbc P E kp ⟨l⟩ (opsO P E kp ⟨l⟩ Q T rest) T i [o] s:=by
 rw[opsO];simp only[List.getElem?_toArray]
 cases l[i]? <;> rfl
end
end Go.Hs
