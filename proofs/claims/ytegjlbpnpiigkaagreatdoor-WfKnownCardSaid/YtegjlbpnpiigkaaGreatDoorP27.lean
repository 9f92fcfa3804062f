/- A part. No condition. -/
import Derived.Test.YtegjlbpnpiigkaaGreatDoorP13
import Derived.OrdersIn
set_option linter.all false
namespace Go.Hs
section
variable{P:Program}{E:Ent}
theorem Zyn{ops:Array Oper}{Q:AS->Prop}{R:Exit->Act->World->Prop}{tail:List Nat}(hP:∀ ch a w,Pan E ch a w->R (.panic ch) a w)(hR:∀ s a w,Sat E s a w->Q s->wpOpsIn E.rk.F 0 P ops R tail a w)(hd:(ops.all (Zpe E.n))=true):∀ (l:List Oper) (k:Nat) (s:AS) (a:Act) (w:World),Sat E s a w->(∀ j,j<l.length->l[j]?=ops[k+j]?)->Zlb P E ops Q l s ->
  wpOpsIn E.rk.F 0 P ops R ((List.range l.length).map (k + ·)++tail) a w
 |[],k,s,a,w,hs,_,h=>by
  simp only[List.length_nil,List.range_zero,List.map_nil,List.nil_append];exact hR s a w hs h
 |o::rest,k,s,a,w,⟨X,hX⟩,hl,h=>by
  have hk:ops[k]?=some o:=by have:=hl 0 zS;simpa using this.symm
  have hl':∀ j,j<rest.length->rest[j]?=ops[k+1+j]? := λj hj=>by have:=hl (j+1) (zu hj);rw[show k+1+j=k+(j+1) by omega];simpa using this
  have hmem:∀ (o':Oper) d,o'∈ops->o'.dst=some d->d<E.n:=by
   intro o' d ho hdst;rw[Array.all_eq_true']at hd;have:=hd o' ho;unfold Zpe at this;rw[hdst]at this;simpa using this
  have hko:o∈ops:=by rw[Array.getElem?_eq_some_iff]at hk;obtain⟨hlt,rfl⟩:=hk;exact Array.getElem_mem hlt
  have hrange:(List.range (o::rest).length).map (k + ·)++tail=k::((List.range rest.length).map (k+1 + ·)++tail):=by
   simp only[List.length_cons,List.range_succ_eq_map,List.map_cons,Nat.add_zero,List.map_map,List.cons_append]
   congr 2
   apply List.map_congr_left;intro j _;simp;omega
  rw[hrange];simp only[wpOpsIn,hk];simp only[Zlb]at h
  cases hwa:Zaa ops s.τ o with
  |none=>rw[hwa]at h;exact h.elim
  |some b=>
   have hb:=Z9e hX hwa hmem;rw[hwa]at h;rw[hb]
   cases b with
   |true=>
    simp only[if_true]at h⊢;refine Zxk _ (Z5s h) (Oper.wp_mono ?_ (Zqo hX (λd hdst=>hmem o d hko hdst) h hP));rintro a' w' ⟨v,H',hk',hs'⟩;exact Zyn hP hR hd rest (k+1) _ _ _ hs' hl' hk'
   |false=>
    simp only[Bool.false_eq_true,if_false]at h⊢;refine⟨λ_ _=>trivial,?_⟩;refine Zyn hP hR hd rest (k+1) _ _ _ ⟨X,?_⟩ hl' h;have:=hX.step (Goes.refl hX.go.inv) (dst:=o.dst) (c:=undef) (v:=.tuple []) (.tuple #[] [] rfl (λi h1 h2=>by simp at h2)) (λd hdst=>hmem o d hko hdst);rw[hX.hw]at this;exact this
theorem Z1r{ops:Array Oper}{Q:AS->Prop}{R:Exit->Act->World->Prop}{s:AS}{a:Act}{w:World}{o:Oper}(hP:∀ ch a w,Pan E ch a w->R (.panic ch) a w)(hd:(ops.all (Zpe E.n))=true)(hsz:Nat.ble 1 ops.size=true)(ho:ops[ops.size-1]?=some o)(hg:o.guard=none)(hnd:∀ c,o.op ≠ .defer c)(hs:Sat E s a w)
  (h:Zlb P E ops Q ops.toList.dropLast s) (hR:∀ s a w,Sat E s a w->Q s->o.wp P a w (R .normal) R):wpOpsIn E.rk.F 0 P ops R (List.range ops.size) a w:=by
 have hsz:=Nat.le_of_ble_eq_true hsz
 have:=Zyn (P:=P) (E:=E) (R:=R) (tail:=[ops.size-1]) (Q:=Q) hP (λs a w h1 h2=>by
  simp only[wpOpsIn,ho]
  have:Region.wanted o (yielded ops a.tmps)=true:=by simp[Region.wanted,hg]
  rw[this];simp only[if_true]
  exact Zxk _ hnd (Oper.wp_mono (λ_ _ h=>h) (hR s a w h1 h2))) hd ops.toList.dropLast 0 s a w hs (λj hj=>by
   rw[List.getElem?_dropLast];simp at hj;rw[if_pos zO]
   simp) h
 have e:List.range ops.size=(List.range ops.toList.dropLast.length).map (0 + ·)++[ops.size-1]:=by
  simp only[List.length_dropLast,Array.length_toList,Nat.zero_add,List.map_id'];rw[<- List.range_succ]
  congr 1
  omega
 rw[e];exact this
def HandX(P:Program)(E:Ent)(ops:Array Oper)(R:Exit->Act->World->Prop)(o:Oper)(s:AS)(K:AS->Prop):Prop:=
 (Zaa ops s.τ o=some true/\∀ X a,SatX E X s a X.w->o.wpIn E.rk.F 0 P a X.w (λa' w'=>∃ s2,Sat E s2 a' w'/\K s2) R)\/(Zaa ops s.τ o=some false/\K (s.put o.dst (.tuple [])))
def opsX(P:Program)(E:Ent)(ops:Array Oper)(R:Exit->Act->World->Prop)(K:AS->Prop):List Nat->Nat->AS->Prop
 |[],k,s=>Zlb P E ops K (ops.toList.drop k) s
 |n::r,k,s=>Zlb P E ops (λs1=>∃ o,ops[n]?=some o/\HandX P E ops R o s1 (opsX P E ops R K r (n+1))) ((ops.toList.drop k).take (n-k)) s
def Zuv(z:Nat):Nat->List Nat->Bool
 |_,[]=>true
 |k,n::r=>Nat.ble k n&&Nat.blt n z&&Zuv z (n+1) r
theorem Zjt{ops:Array Oper}{K:AS->Prop}{R:Exit->Act->World->Prop}(hP:∀ ch a w,Pan E ch a w->R (.panic ch) a w)(hR:∀ s a w,Sat E s a w->K s->R .normal a w)(hd:(ops.all (Zpe E.n))=true):
  ∀ (ns:List Nat) (k:Nat) (s:AS) (a:Act) (w:World),Zuv ops.size k ns=true->Sat E s a w->opsX P E ops R K ns k s->wpOpsIn E.rk.F 0 P ops R ((List.range (ops.size-k)).map (k + ·)) a w
 |[],k,s,a,w,_,hs,h=>by
  have:=Zzn (P:=P) (R:=R) hP hR hd (ops.toList.drop k) k s a w hs (λj=>by rw[List.getElem?_drop,Array.getElem?_toList]) h;rwa [List.length_drop,Array.length_toList]at this
 |n::r,k,s,a,w,hb,hs,h=>by
  simp only[Zuv,Bool.and_eq_true,Nat.blt_eq]at hb;obtain⟨⟨h1,h2⟩,h3⟩:=hb;have h1:=Nat.le_of_ble_eq_true h1
  have key:=Zyn (P:=P) (E:=E) (R:=R) (tail:=n::(List.range (ops.size-(n+1))).map (n+1 + ·)) (ops:=ops) hP
   (λs1 a1 w1 hsat hq=>by
    obtain⟨o,ho,hx⟩:=hq;obtain⟨X,hX⟩:=hsat;have hw:=hX.hw;subst hw;simp only[wpOpsIn,ho]
    have hmem:∀ (o':Oper) d,o'∈ops->o'.dst=some d->d<E.n:=by
     intro o' d hm hdst;rw[Array.all_eq_true']at hd;have:=hd o' hm;unfold Zpe at this;rw[hdst]at this;simpa using this
    rcases hx with ⟨hwa,hx⟩|⟨hwa,hx⟩
    rw[Z9e hX hwa hmem];simp only[if_true];refine Oper.wpIn_mono ?_ (hx X a1 hX);rintro a' w' ⟨s2,hs2,hk⟩;exact Zjt hP hR hd r (n+1) s2 a' w' h3 hs2 hk;rw[Z9e hX hwa hmem];simp only[Bool.false_eq_true,if_false];refine⟨λ_ _=>trivial,Zjt hP hR hd r (n+1) _ _ _ h3 ⟨X,?_⟩ hx⟩
    have hko:o∈ops:=by rw[Array.getElem?_eq_some_iff]at ho;obtain⟨hlt,rfl⟩:=ho;exact Array.getElem_mem hlt
    exact hX.step (Goes.refl hX.go.inv) (dst:=o.dst) (c:=undef) (v:=.tuple []) (.tuple #[] [] rfl (λi h1 h2=>by simp at h2)) (λd hdst=>hmem o d hko hdst))
   hd ((ops.toList.drop k).take (n-k)) k s a w hs (λj hj=>by
    rw[List.length_take]at hj
    rw[List.getElem?_take_of_lt zo,List.getElem?_drop,Array.getElem?_toList]) h
  have e1:(List.range (ops.size-k)).map (k + ·)=(List.range ((ops.toList.drop k).take (n-k)).length).map (k + ·)++n::(List.range (ops.size-(n+1))).map (n+1 + ·):=by
   rw[List.length_take,List.length_drop,Array.length_toList,Nat.min_eq_left zo];rw[show ops.size-k=(n-k)+((ops.size-(n+1))+1) by omega,List.range_add,List.range_succ_eq_map];simp only[List.map_append,List.map_cons,List.map_map,Nat.add_zero]
   congr 2
   omega;apply List.map_congr_left;intro j _;simp only[Function.comp];omega
  rw[e1];exact key
theorem Zng{ops:Array Oper}{K K':AS->Prop}(hk:∀ s,K s->K' s):∀ {l:List Oper} {s:AS},Zlb P E ops K l s->Zlb P E ops K' l s
 |[],s,h=>hk s h
 |o::r,s,h=>by
  simp only[Zlb]at h⊢
  cases hwa:Zaa ops s.τ o with
  |none=>rw[hwa]at h;exact h.elim
  |some b=>
   rw[hwa]at h
   cases b with
   |true=>exact Z6a (λ_ _ h=>Zng hk h) h
   |false=>exact Zng hk h
theorem Zhfa{id:Nat}{ops:Array Oper}{Q:Exit->AS->Prop}{s:AS}(ns:List Nat)(hd:(ops.all (Zpe E.n))=true)(hb:Zuv ops.size 0 ns=true)(h:opsX P E ops (Post E Q) (Q .normal) ns 0 s):AW P E (.region id ops false) Q s:=by
 intro a w hsat;refine wpIn_region ?_;have:=Zjt (P:=P) (R:=Post E Q) (λch a w h=>.inr ⟨ch,rfl,h⟩) (λs a w h1 h2=>.inl ⟨s,h1,h2⟩) hd ns 0 s a w hb hsat h;simpa using this
theorem Zlfa{id:Nat}{ops:Array Oper}{Q:Exit->AS->Prop}{s:AS}(n:Nat){o:Oper}(hd:(ops.all (Zpe E.n))=true)(ho:ops[n]?=some o)(hg:o.guard=none)
  (h:Zlb P E ops (λs1=>∀ X a,SatX E X s1 a X.w->o.wpIn E.rk.F 0 P a X.w (λa' w'=>∃ s2,Sat E s2 a' w'/\Zlb P E ops (Q .normal) (ops.toList.drop (n+1)) s2) (Post E Q)) (ops.toList.take n) s):AW P E (.region id ops false) Q s:=by
 have hn:n<ops.size:=by rw[Array.getElem?_eq_some_iff]at ho;exact ho.1
 refine Zhfa [n] hd (by simp only[Zuv,Bool.and_true,Bool.and_eq_true,Nat.blt_eq];exact⟨zS,hn⟩) ?_
 show Zlb P E ops _ ((ops.toList.drop 0).take (n-0)) s
 rw[List.drop_zero,Nat.sub_zero];refine Zng (λs1 h1=>⟨o,ho,.inl ⟨by simp[Zaa,hg],h1⟩⟩) h
def GivesE(P:Program)(E:Ent)(o:Oper)(s:AS)(v:V)(H':Heap):Prop:=
 ∀ X a w,SatX E X s a w->∃ c Y,(execOp a.eval o).run P X.w=.ok (.value c) Y.w/\Goes X s.H Y H'/\Rel Y c v
theorem GivesE.hand{ops:Array Oper}{R:Exit->Act->World->Prop}{o:Oper}{s:AS}{v:V}{H':Heap}{K:AS->Prop}{X:Cx}{a:Act}(h:GivesE P E o s v H')(hnd:∀ c,o.op ≠ .defer c)(hd:(ops.all (Zpe E.n))=true){n:Nat}(ho:ops[n]?=some o)(hX:SatX E X s a X.w)(hK:K (AS.put { s with H:=H' } o.dst v)):
  o.wpIn E.rk.F 0 P a X.w (λa' w'=>∃ s2,Sat E s2 a' w'/\K s2) R:=by
 refine Zxk _ hnd ?_;obtain⟨c,Y,hrun,hgo,hr⟩:=h X a _ hX;unfold Oper.wp;rw[hrun,Oper.upon_value];refine⟨_,⟨Y,hX.step hgo hr λd hdst=>?_⟩,hK⟩
 have hko:o∈ops:=by rw[Array.getElem?_eq_some_iff]at ho;obtain⟨hlt,rfl⟩:=ho;exact Array.getElem_mem hlt
 rw[Array.all_eq_true']at hd;have:=hd o hko;unfold Zpe at this;rw[hdst]at this;simpa using this
theorem Zmm{id:Nat}{ops:Array Oper}{Q:Exit->AS->Prop}{s:AS}(n:Nat){o:Oper}(hd:(ops.all (Zpe E.n))=true)(ho:ops[n]?=some o)(hg:o.guard=none)
  (h:Zlb P E ops (λs1=>∃ v H',GivesE P E o s1 v H'/\Zlb P E ops (Q .normal) (ops.toList.drop (n+1)) (AS.put { s1 with H:=H' } o.dst v)) (ops.toList.take n) s) (hnd:∀ c,o.op ≠ .defer c:=by exact λ_ h=>nomatch h):AW P E (.region id ops false) Q s:=
 Zlfa n hd ho hg (Zng (λ_ ⟨_,_,h1,h2⟩ _ _ hX=>h1.hand (K:=Zlb P E ops (Q .normal) (ops.toList.drop (n+1))) hnd hd ho hX h2) h)
def Gives(P:Program)(E:Ent)(o:Oper)(s:AS)(v:V):Prop:=∀ X a w,SatX E X s a w->∃ c,(execOp a.eval o).run P X.w=.ok (.value c) X.w/\Rel X c v
theorem Gives.e{o:Oper}{s:AS}{v:V}(h:Gives P E o s v):GivesE P E o s v s.H:=λX a w hX=>let ⟨c,h1,h2⟩:=h X a w hX;⟨c,X,h1,Goes.refl hX.go.inv,h2⟩
theorem Zyf{id:Nat}{ops:Array Oper}{Q:Exit->AS->Prop}{s:AS}(n:Nat){o:Oper}(hd:(ops.all (Zpe E.n))=true)(ho:ops[n]?=some o)(hg:o.guard=none)
  (h:Zlb P E ops (λs1=>∃ v,Gives P E o s1 v/\Zlb P E ops (Q .normal) (ops.toList.drop (n+1)) (AS.put s1 o.dst v)) (ops.toList.take n) s) (hnd:∀ c,o.op ≠ .defer c:=by exact λ_ h=>nomatch h):AW P E (.region id ops false) Q s:=
 Zmm n hd ho hg (Zng (λs1 ⟨v,h1,h2⟩=>⟨v,s1.H,h1.e,h2⟩) h) hnd
end
end Go.Hs
