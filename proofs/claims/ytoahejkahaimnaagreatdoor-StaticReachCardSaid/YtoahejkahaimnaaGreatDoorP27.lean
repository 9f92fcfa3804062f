/- A part. No condition. -/
import Derived.Test.YtoahejkahaimnaaGreatDoorP26
import Derived.RangeFuncNested
set_option linter.all false
namespace Go.Hs
section
variable{P:Program}{E:Ent}
theorem Zom{ops:Array Oper}{Q:AS->Prop}{R:Exit->Act->World->Prop}{tail:List Nat}(hP:∀ ch a w,Pan E ch a w->R (.panic ch) a w)(hR:∀ s a w,Sat E s a w->Q s->wpOpsIn E.rk.F 0 P ops R tail a w)(hd:(ops.all (Z7b E.n))=true):∀ (l:List Oper) (k:Nat) (s:AS) (a:Act) (w:World),Sat E s a w->(∀ j,j<l.length->l[j]?=ops[k+j]?)->Zsa P E ops Q l s ->
  wpOpsIn E.rk.F 0 P ops R ((List.range l.length).map (k + ·)++tail) a w
 |[],k,s,a,w,hs,_,h=>by
  simp only[List.length_nil,List.range_zero,List.map_nil,List.nil_append];exact hR s a w hs h
 |o::rest,k,s,a,w,⟨X,hX⟩,hl,h=>by
  have hk:ops[k]?=some o:=by have:=hl 0 zS;simpa using this.symm
  have hl':∀ j,j<rest.length->rest[j]?=ops[k+1+j]? := λj hj=>by have:=hl (j+1) (zu hj);rw[show k+1+j=k+(j+1) by omega];simpa using this
  have hmem:∀ (o':Oper) d,o'∈ops->o'.dst=some d->d<E.n:=by
   intro o' d ho hdst;rw[Array.all_eq_true']at hd;have:=hd o' ho;unfold Z7b at this;rw[hdst]at this;simpa using this
  have hko:o∈ops:=by rw[Array.getElem?_eq_some_iff]at hk;obtain⟨hlt,rfl⟩:=hk;exact Array.getElem_mem hlt
  have hrange:(List.range (o::rest).length).map (k + ·)++tail=k::((List.range rest.length).map (k+1 + ·)++tail):=by
   simp only[List.length_cons,List.range_succ_eq_map,List.map_cons,Nat.add_zero,List.map_map,List.cons_append]
   congr 2
   apply List.map_congr_left;intro j _;simp;omega
  rw[hrange];simp only[wpOpsIn,hk];simp only[Zsa]at h
  cases hwa:Zz ops s.τ o with
  |none=>rw[hwa]at h;exact h.elim
  |some b=>
   have hb:=Ztc hX hwa hmem;rw[hwa]at h;rw[hb]
   cases b with
   |true=>
    simp only[if_true]at h⊢;refine Zog _ (Zfm h) (Oper.wp_mono ?_ (Zjj hX (λd hdst=>hmem o d hko hdst) h hP));rintro a' w' ⟨v,H',hk',hs'⟩;exact Zom hP hR hd rest (k+1) _ _ _ hs' hl' hk'
   |false=>
    simp only[Bool.false_eq_true,if_false]at h⊢;refine⟨λ_ _=>trivial,?_⟩;refine Zom hP hR hd rest (k+1) _ _ _ ⟨X,?_⟩ hl' h;have:=hX.step (Goes.refl hX.go.inv) (dst:=o.dst) (c:=undef) (v:=.tuple []) (.tuple #[] [] rfl (λi h1 h2=>by simp at h2)) (λd hdst=>hmem o d hko hdst);rw[hX.hw]at this;exact this
theorem Zp8{ops:Array Oper}{Q:AS->Prop}{R:Exit->Act->World->Prop}{s:AS}{a:Act}{w:World}{o:Oper}(hP:∀ ch a w,Pan E ch a w->R (.panic ch) a w)(hd:(ops.all (Z7b E.n))=true)(hsz:Nat.ble 1 ops.size=true)(ho:ops[ops.size-1]?=some o)(hg:o.guard=none)(hnd:∀ c,o.op ≠ .defer c)(hs:Sat E s a w)
  (h:Zsa P E ops Q ops.toList.dropLast s) (hR:∀ s a w,Sat E s a w->Q s->o.wp P a w (R .normal) R):wpOpsIn E.rk.F 0 P ops R (List.range ops.size) a w:=by
 have hsz:=Nat.le_of_ble_eq_true hsz
 have:=Zom (P:=P) (E:=E) (R:=R) (tail:=[ops.size-1]) (Q:=Q) hP (λs a w h1 h2=>by
  simp only[wpOpsIn,ho]
  have:Region.wanted o (yielded ops a.tmps)=true:=by simp[Region.wanted,hg]
  rw[this];simp only[if_true]
  exact Zog _ hnd (Oper.wp_mono (λ_ _ h=>h) (hR s a w h1 h2))) hd ops.toList.dropLast 0 s a w hs (λj hj=>by
   rw[List.getElem?_dropLast];simp at hj;rw[if_pos zO]
   simp) h
 have e:List.range ops.size=(List.range ops.toList.dropLast.length).map (0 + ·)++[ops.size-1]:=by
  simp only[List.length_dropLast,Array.length_toList,Nat.zero_add,List.map_id'];rw[<- List.range_succ]
  congr 1
  omega
 rw[e];exact this
def HandX(P:Program)(E:Ent)(ops:Array Oper)(R:Exit->Act->World->Prop)(o:Oper)(s:AS)(K:AS->Prop):Prop:=
 (Zz ops s.τ o=some true/\∀ X a,SatX E X s a X.w->o.wpIn E.rk.F 0 P a X.w (λa' w'=>∃ s2,Sat E s2 a' w'/\K s2) R)\/(Zz ops s.τ o=some false/\K (s.put o.dst (.tuple [])))
def Z7y(P:Program)(E:Ent)(ops:Array Oper)(R:Exit->Act->World->Prop)(K:AS->Prop):List Nat->Nat->AS->Prop
 |[],k,s=>Zsa P E ops K (ops.toList.drop k) s
 |n::r,k,s=>Zsa P E ops (λs1=>∃ o,ops[n]?=some o/\HandX P E ops R o s1 (Z7y P E ops R K r (n+1))) ((ops.toList.drop k).take (n-k)) s
def Zru(z:Nat):Nat->List Nat->Bool
 |_,[]=>true
 |k,n::r=>Nat.ble k n&&Nat.blt n z&&Zru z (n+1) r
theorem Zjs{ops:Array Oper}{K:AS->Prop}{R:Exit->Act->World->Prop}(hP:∀ ch a w,Pan E ch a w->R (.panic ch) a w)(hR:∀ s a w,Sat E s a w->K s->R .normal a w)(hd:(ops.all (Z7b E.n))=true):
  ∀ (ns:List Nat) (k:Nat) (s:AS) (a:Act) (w:World),Zru ops.size k ns=true->Sat E s a w->Z7y P E ops R K ns k s->wpOpsIn E.rk.F 0 P ops R ((List.range (ops.size-k)).map (k + ·)) a w
 |[],k,s,a,w,_,hs,h=>by
  have:=Zpm (P:=P) (R:=R) hP hR hd (ops.toList.drop k) k s a w hs (λj=>by rw[List.getElem?_drop,Array.getElem?_toList]) h;rwa [List.length_drop,Array.length_toList]at this
 |n::r,k,s,a,w,hb,hs,h=>by
  simp only[Zru,Bool.and_eq_true,Nat.blt_eq]at hb;obtain⟨⟨h1,h2⟩,h3⟩:=hb;have h1:=Nat.le_of_ble_eq_true h1
  have key:=Zom (P:=P) (E:=E) (R:=R) (tail:=n::(List.range (ops.size-(n+1))).map (n+1 + ·)) (ops:=ops) hP
   (λs1 a1 w1 hsat hq=>by
    obtain⟨o,ho,hx⟩:=hq;obtain⟨X,hX⟩:=hsat;have hw:=hX.hw;subst hw;simp only[wpOpsIn,ho]
    have hmem:∀ (o':Oper) d,o'∈ops->o'.dst=some d->d<E.n:=by
     intro o' d hm hdst;rw[Array.all_eq_true']at hd;have:=hd o' hm;unfold Z7b at this;rw[hdst]at this;simpa using this
    rcases hx with ⟨hwa,hx⟩|⟨hwa,hx⟩
    rw[Ztc hX hwa hmem];simp only[if_true];refine Oper.wpIn_mono ?_ (hx X a1 hX);rintro a' w' ⟨s2,hs2,hk⟩;exact Zjs hP hR hd r (n+1) s2 a' w' h3 hs2 hk;rw[Ztc hX hwa hmem];simp only[Bool.false_eq_true,if_false];refine⟨λ_ _=>trivial,Zjs hP hR hd r (n+1) _ _ _ h3 ⟨X,?_⟩ hx⟩
    have hko:o∈ops:=by rw[Array.getElem?_eq_some_iff]at ho;obtain⟨hlt,rfl⟩:=ho;exact Array.getElem_mem hlt
    exact hX.step (Goes.refl hX.go.inv) (dst:=o.dst) (c:=undef) (v:=.tuple []) (.tuple #[] [] rfl (λi h1 h2=>by simp at h2)) (λd hdst=>hmem o d hko hdst))
   hd ((ops.toList.drop k).take (n-k)) k s a w hs (λj hj=>by
    rw[List.length_take]at hj
    rw[List.getElem?_take_of_lt zo,List.getElem?_drop,Array.getElem?_toList]) h
  have e1:(List.range (ops.size-k)).map (k + ·)=(List.range ((ops.toList.drop k).take (n-k)).length).map (k + ·)++n::(List.range (ops.size-(n+1))).map (n+1 + ·):=by
   rw[List.length_take,List.length_drop,Array.length_toList,Nat.min_eq_left zo];rw[show ops.size-k=(n-k)+((ops.size-(n+1))+1) by omega,List.range_add,List.range_succ_eq_map];simp only[List.map_append,List.map_cons,List.map_map,Nat.add_zero]
   congr 2
   omega;apply List.map_congr_left;intro j _;simp only[Function.comp];omega
  rw[e1];exact key
theorem Zag{ops:Array Oper}{K K':AS->Prop}(hk:∀ s,K s->K' s):∀ {l:List Oper} {s:AS},Zsa P E ops K l s->Zsa P E ops K' l s
 |[],s,h=>hk s h
 |o::r,s,h=>by
  simp only[Zsa]at h⊢
  cases hwa:Zz ops s.τ o with
  |none=>rw[hwa]at h;exact h.elim
  |some b=>
   rw[hwa]at h
   cases b with
   |true=>exact Zqa (λ_ _ h=>Zag hk h) h
   |false=>exact Zag hk h
theorem Zrb{id:Nat}{ops:Array Oper}{Q:Exit->AS->Prop}{s:AS}(ns:List Nat)(hd:(ops.all (Z7b E.n))=true)(hb:Zru ops.size 0 ns=true)(h:Z7y P E ops (Post E Q) (Q .normal) ns 0 s):AW P E (.region id ops false) Q s:=by
 intro a w hsat;refine wpIn_region ?_;have:=Zjs (P:=P) (R:=Post E Q) (λch a w h=>.inr ⟨ch,rfl,h⟩) (λs a w h1 h2=>.inl ⟨s,h1,h2⟩) hd ns 0 s a w hb hsat h;simpa using this
theorem Zgda{id:Nat}{ops:Array Oper}{Q:Exit->AS->Prop}{s:AS}(n:Nat){o:Oper}(hd:(ops.all (Z7b E.n))=true)(ho:ops[n]?=some o)(hg:o.guard=none)
  (h:Zsa P E ops (λs1=>∀ X a,SatX E X s1 a X.w->o.wpIn E.rk.F 0 P a X.w (λa' w'=>∃ s2,Sat E s2 a' w'/\Zsa P E ops (Q .normal) (ops.toList.drop (n+1)) s2) (Post E Q)) (ops.toList.take n) s):AW P E (.region id ops false) Q s:=by
 have hn:n<ops.size:=by rw[Array.getElem?_eq_some_iff]at ho;exact ho.1
 refine Zrb [n] hd (by simp only[Zru,Bool.and_true,Bool.and_eq_true,Nat.blt_eq];exact⟨zS,hn⟩) ?_
 show Zsa P E ops _ ((ops.toList.drop 0).take (n-0)) s
 rw[List.drop_zero,Nat.sub_zero];refine Zag (λs1 h1=>⟨o,ho,.inl ⟨by simp[Zz,hg],h1⟩⟩) h
def GivesE(P:Program)(E:Ent)(o:Oper)(s:AS)(v:V)(H':Heap):Prop:=
 ∀ X a w,SatX E X s a w->∃ c Y,(execOp a.eval o).run P X.w=.ok (.value c) Y.w/\Goes X s.H Y H'/\Rel Y c v
theorem GivesE.hand{ops:Array Oper}{R:Exit->Act->World->Prop}{o:Oper}{s:AS}{v:V}{H':Heap}{K:AS->Prop}{X:Cx}{a:Act}(h:GivesE P E o s v H')(hnd:∀ c,o.op ≠ .defer c)(hd:(ops.all (Z7b E.n))=true){n:Nat}(ho:ops[n]?=some o)(hX:SatX E X s a X.w)(hK:K (AS.put { s with H:=H' } o.dst v)):
  o.wpIn E.rk.F 0 P a X.w (λa' w'=>∃ s2,Sat E s2 a' w'/\K s2) R:=by
 refine Zog _ hnd ?_;obtain⟨c,Y,hrun,hgo,hr⟩:=h X a _ hX;unfold Oper.wp;rw[hrun,Oper.upon_value];refine⟨_,⟨Y,hX.step hgo hr λd hdst=>?_⟩,hK⟩
 have hko:o∈ops:=by rw[Array.getElem?_eq_some_iff]at ho;obtain⟨hlt,rfl⟩:=ho;exact Array.getElem_mem hlt
 rw[Array.all_eq_true']at hd;have:=hd o hko;unfold Z7b at this;rw[hdst]at this;simpa using this
theorem Zol{id:Nat}{ops:Array Oper}{Q:Exit->AS->Prop}{s:AS}(n:Nat){o:Oper}(hd:(ops.all (Z7b E.n))=true)(ho:ops[n]?=some o)(hg:o.guard=none)
  (h:Zsa P E ops (λs1=>∃ v H',GivesE P E o s1 v H'/\Zsa P E ops (Q .normal) (ops.toList.drop (n+1)) (AS.put { s1 with H:=H' } o.dst v)) (ops.toList.take n) s) (hnd:∀ c,o.op ≠ .defer c:=by exact λ_ h=>nomatch h):AW P E (.region id ops false) Q s:=
 Zgda n hd ho hg (Zag (λ_ ⟨_,_,h1,h2⟩ _ _ hX=>h1.hand (K:=Zsa P E ops (Q .normal) (ops.toList.drop (n+1))) hnd hd ho hX h2) h)
def Gives(P:Program)(E:Ent)(o:Oper)(s:AS)(v:V):Prop:=∀ X a w,SatX E X s a w->∃ c,(execOp a.eval o).run P X.w=.ok (.value c) X.w/\Rel X c v
theorem Gives.e{o:Oper}{s:AS}{v:V}(h:Gives P E o s v):GivesE P E o s v s.H:=λX a w hX=>let ⟨c,h1,h2⟩:=h X a w hX;⟨c,X,h1,Goes.refl hX.go.inv,h2⟩
theorem Zhf{id:Nat}{ops:Array Oper}{Q:Exit->AS->Prop}{s:AS}(n:Nat){o:Oper}(hd:(ops.all (Z7b E.n))=true)(ho:ops[n]?=some o)(hg:o.guard=none)
  (h:Zsa P E ops (λs1=>∃ v,Gives P E o s1 v/\Zsa P E ops (Q .normal) (ops.toList.drop (n+1)) (AS.put s1 o.dst v)) (ops.toList.take n) s) (hnd:∀ c,o.op ≠ .defer c:=by exact λ_ h=>nomatch h):AW P E (.region id ops false) Q s:=
 Zol n hd ho hg (Zag (λs1 ⟨v,h1,h2⟩=>⟨v,s1.H,h1.e,h2⟩) h) hnd
end
section
variable{P:Program}{E:Ent}
def Zia(lo:Nat)(H:Heap):Heap:=λo=>if lo<=o then(H o).noMp else .dead
theorem Zrc{lo o:Nat}{H:Heap}(h:lo<=o):Zia lo H o=(H o).noMp:=if_pos h
theorem Zib{lo o:Nat}{H:Heap}(h:o<lo):Zia lo H o=.dead:=if_neg zo
theorem Z7g(x:AObj):x.noMp.noMp=x.noMp:=by cases x<;>rfl
theorem Z7h{lo:Nat}{H H':Heap}(h:∀ o,lo<=o->(H o).noMp=(H' o).noMp):Zia lo H=Zia lo H':=by
 funext o
 rcases Nat.lt_or_ge o lo with q|q
 rw[Zib q,Zib q];rw[Zrc q,Zrc q,h o q]
@[go_sem] theorem Z6j(lo o:Nat)(H:Heap)(x:AObj):Zia lo (upd H o x)=if lo<=o then upd (Zia lo H) o x.noMp else Zia lo H:=by
 funext o'
 split
 rename_i h
 by_cases e:o'=o
 subst e;rw[Zrc h,Z3,Z3];rw[Zi _ _ e]
 rcases Nat.lt_or_ge o' lo with q|q
 rw[Zib q,Zib q];rw[Zrc q,Zrc q,Zi _ _ e];rename_i h
 rcases Nat.lt_or_ge o' lo with q|q
 rw[Zib q,Zib q];rw[Zrc q,Zrc q,Zi _ _ zo]
theorem Z9g{a lo:Nat}(H:Heap)(h:a<=lo):Zia lo (Zia a H)=Zia lo H:=Z7h λo q=>by rw[Zrc (Nat.le_trans h q),Z7g]
@[go_sem] theorem Zbo(lo:Nat)(H:Heap):Zia lo (Zia lo H)=Zia lo H:=Z9g H (Nat.le_refl _)
@[go_sem] theorem mask_none(lo:Nat):Zia lo Zk=Zk:=by funext o;unfold Zia;split<;>rfl
def upM(lo:Nat)(H:Heap):Heap:=λo=>if lo<=o then(H o).noMp else H o
theorem Ztda{X:Cx}{H:Heap}(hI:Inv X H)(lo:Nat):Goes X H X (upM lo H):=Goes.sub hI λo=>by
 unfold upM
 split
 cases h:H o<;>first|exact .inr rfl|exact .inl rfl
 exact .inr rfl
theorem Zus{X:Cx}{H:Heap}(hI:Inv X H)(lo:Nat):Goes X H X (Zia lo H):=Goes.sub hI λo=>by
 unfold Zia
 split
 cases h:H o<;>first|exact .inr rfl|exact .inl rfl
 exact .inl rfl
def low(lo:Nat)(H H':Heap):Heap:=λo=>if lo<=o then(H' o).noMp else H o
theorem Zdh{X Y:Cx}{lo:Nat}{H H':Heap}(hI:Inv X H)(hg:Goes X (Zia lo H) Y H'):Goes X H Y (low lo H H'):=by
 have e:Zia lo H=only (Nat.ble lo) (upM lo H):=by
  funext o
  unfold Zia only upM
  by_cases h:lo<=o
  rw[if_pos h,if_pos (Nat.ble_eq_true_of_le h),if_pos h];rw[if_neg h,if_neg (by rw[Nat.ble_eq];exact h)]
 rw[e]at hg;refine(Ztda hI lo).trans (hg.frame (Ztda hI lo).inv _ λo=>?_);unfold low
 split
 exact .inr (.inl rfl);rename_i h;exact .inr (.inr ⟨by rw[Bool.eq_false_iff,ne_eq,Nat.ble_eq];exact h,(if_neg h).symm⟩)
theorem Zcma(lo:Nat)(H H':Heap):Zia lo (low lo H H')=Zia lo H':=Z7h λo q=>by rw[low,if_pos q,Z7g]
def CallT(P:Program)(t:Fn)(cargs:Array Value)(w:World)(R:Ending->World->Prop):Prop:=match t with
 |.func f=>Z2 P f=true/\Calls P f cargs w R
 |.yield l=>YieldAt Fence.wide 0 P l cargs w R
 |_=>False
theorem CallT.mono{t:Fn}{cargs:Array Value}{w:World}{R R':Ending->World->Prop}(h:CallT P t cargs w R)(hr:∀ e w,R e w->R' e w):CallT P t cargs w R':=by
 cases t with
 |func f=>exact⟨h.1,h.2.mono hr⟩
 |yield l=>
  obtain⟨fn,tmps,assign,body,hy,hR⟩:=h;exact⟨fn,tmps,assign,body,hy,hR.mono hr⟩
 |_=>exact h.elim
structure Yd(P:Program)(G:Nat->V)(X:Cx)(lo:Nat){σ κ : Type}(t:Fn)(caps:List V)(enc : κ -> List V)(R : σ -> Heap->Prop)(dom : σ -> κ -> Prop)(nx : σ -> κ -> Bool × σ):Prop where
 cap:∀ l,t=.yield l->caps=[]
 sp:∀ s k Y H cargs,dom s k->X.le Y->Inv Y (Zia lo H)->R s (Zia lo H)->(∀ g,RelG Y g (G g))->RelA Y cargs (enc k++caps) ->
  CallT P t cargs Y.w (λe w'=>∃ Z H',e=.returned (.bool (nx s k).1)/\Z.w=w'/\Goes Y (Zia lo H) Z H'/\R (nx s k).2 (Zia lo H'))
theorem Yd.at{G:Nat->V}{X X':Cx}{lo:Nat}{σ κ : Type}{t:Fn}{caps:List V}{enc : κ -> List V}{R : σ -> Heap->Prop}{dom : σ -> κ -> Prop}{nx : σ -> κ -> Bool × σ}(h:Yd P G X lo t caps enc R dom nx)(hle:X.le X'):Yd P G X' lo t caps enc R dom nx:=
 ⟨h.cap,λs k Y H cargs hd hl=>h.sp s k Y H cargs hd (hle.trans hl)⟩
def Zla{σ κ : Type}(nx : σ -> κ -> Bool × σ) : σ -> List κ -> Bool × σ
 |s,[]=>(true,s)
 |s,k::r=>if(nx s k).1 then Zla nx (nx s k).2 r else(false,(nx s k).2)
def Z0o{σ κ : Type}(dom : σ -> κ -> Prop)(nx : σ -> κ -> Bool × σ) : σ -> List κ -> Prop
 |_,[]=>True
 |s,k::r=>dom s k/\((nx s k).1=true->Z0o dom nx (nx s k).2 r)
theorem Zdv{ops:Array Oper}{R:Exit->Act->World->Prop}{st:AS}{K:AS->Prop}{X:Cx}{a:Act}{dst:Option Nat}{f:Operand}{args:Array Operand}{ats:Array TypeId}{ty:TypeId}{pos:String}{af:Array Edge}{gd:Option (Nat×Bool)}{t:Fn}{caps:List V}(hX:SatX E X st a X.w)
  (hd:(ops.all (Z7b E.n))=true) {n:Nat} (ho:ops[n]?=some ⟨dst,.call ⟨.value f,args,ats⟩,ty,pos,af,gd⟩) (hf:st.ev E f=.func t [] caps) (hcap:∀ l,t=.yield l->caps=[])
  (h:∀ cargs,RelA X cargs (args.toList.map (st.ev E)++caps)->CallT P t cargs X.w (λe w'=>∃ c v Y H',e=.returned c/\Y.w=w'/\Goes X st.H Y H'/\Rel Y c v/\K (AS.put { st with H:=H' } dst v))):
  (⟨dst,.call ⟨.value f,args,ats⟩,ty,pos,af,gd⟩:Oper).wpIn E.rk.F 0 P a X.w (λa' w'=>∃ s2,Sat E s2 a' w'/\K s2) R:=by
 refine⟨λ_ _=>trivial,?_⟩;rw[Oper.semAt_eq _ _ _ (λ_ h=>by cases h)];have hfv:=hX.ev f;rw[hf]at hfv;generalize hq:a.eval f=q at hfv
 cases hfv with
 |func _ xs ys _ _ hx hy hxr hyr=>
  have hx0:xs = #[]:=by
   have:xs.size=0:=hx;exact Array.eq_empty_of_size_eq_zero this
  subst hx0
  have hA:RelA X (args.map a.eval++ys) (args.toList.map (st.ev E)++caps):=by
   refine⟨by simp[hy],λi h1 h2=>?_⟩
   by_cases hi:i<args.size
   rw[Array.getElem_append_left (zu hi),List.getElem_append_left (zu hi)];simp only[Array.getElem_map,List.getElem_map,Array.getElem_toList];exact hX.ev _;rw[Array.getElem_append_right zO,List.getElem_append_right zO];simp only[Array.size_map,List.length_map,Array.length_toList];exact hyr _ _ _
  have hk:=h _ hA
  have hdm:∀ d,dst=some d->d<E.n:=by
   intro d hdst;rw[Array.all_eq_true']at hd;obtain⟨hlt,e⟩:=Array.getElem?_eq_some_iff.1 ho;have:=hd _ (Array.getElem_mem hlt);rw[e]at this;simp only[Z7b,hdst]at this;simpa using this
  have fin:∀ (e:Ending) (w':World),(∃ c v Y H',e=.returned c/\Y.w=w'/\Goes X st.H Y H'/\Rel Y c v/\K (AS.put { st with H:=H' } dst v)) ->
    (match e,w' with
    |.returned v,w''=>∃ s2,Sat E s2 (a.put dst v) w''/\K s2
    |.panicked chain,w''=>R (.panic chain) a w''
    |.outgrown,_=>LetsOut R):=by
   rintro e w' ⟨c,v,Y,H',rfl,rfl,hg,hr,hK⟩;exact⟨_,⟨Y,hX.step hg hr hdm⟩,hK⟩
  cases t with
  |func fid=>
   obtain⟨hen,hk⟩:=hk
   have hrun:(execOp a.eval ⟨dst,.call ⟨.value f,args,ats⟩,ty,pos,af,gd⟩).run P X.w=.ok (.enter fid (args.map a.eval++ys)) X.w:=by
    unfold Z2 at hen
    split at hen
    rename_i fn hfn;simp only[Bool.and_eq_true]at hen;obtain⟨hn1,hn2⟩:=hen
    have hn1':(fn.name == "runtime.NumGoroutine")=false:=zu hn1
    have hn2':fn.body.isNone=false:=by cases hb:fn.body<;>simp_all
    simp only[execOp,resolve,hq,Deferred.ofValue,Sem.run_bind,Sem.run_pure,Result.andThen_ok,invoke,callFunc,run_program,hfn,hn1',hn2'];simp;simp at hen
   rw[hrun,Oper.uponIn_enter];exact⟨λh=>(by cases h),(E.rk.calls).2 (hk.mono fin)⟩
  |yield l=>
   obtain⟨fn,tmps,assign,body,hy2,hR⟩:=hk;obtain rfl:=hcap l rfl;have hy0:ys = #[]:=Array.eq_empty_of_size_eq_zero hy;subst hy0
   have hrun:(execOp a.eval ⟨dst,.call ⟨.value f,args,ats⟩,ty,pos,af,gd⟩).run P X.w=.ok (.round l fn tmps assign body) X.w:=by
    rw[Array.append_empty]at hy2;simp only[execOp,resolve,hq,Deferred.ofValue,Sem.run_bind,Sem.run_pure,Result.andThen_ok,invoke,Array.empty_append,hy2]
   rw[hrun,Oper.uponIn_round];exact⟨λh=>(by cases h),hR.mono fin⟩
  |_=>exact hk.elim
theorem Zyja{X:Cx}(o:Obj):X.le { X with w:=X.w.alloc o }:=
 ⟨λ_ _ _ h=>h,λ_ _ h=>h,λb i x _ hc=>(World.cell?_alloc_lt X.w o ⟨b,i,none⟩ (World.block_lt_of_cell? _ _ hc)).trans hc,rfl,
  λb c t hb=>⟨c,(RowKit.Below.heap_alloc _ _ _ (Array.getElem?_eq_some_iff.1 hb).1).trans hb,rfl⟩,λb es n _ hb=>(RowKit.Below.heap_alloc _ _ _ (Array.getElem?_eq_some_iff.1 hb).1).trans hb⟩
theorem Zwt{X:Cx}{H:Heap}(hI:Inv X H)(o:Obj):Goes X H { X with w:=X.w.alloc o } H:=by
 have hle:=Zyja (X:=X) o;have hkp:Keep (LiveB X H) X.w (X.w.alloc o):=⟨rfl,rfl,rfl,zS,λk hk _=>RowKit.Below.heap_alloc _ _ _ hk⟩;refine⟨⟨?_,hI.inj,λb i hs=>⟨Nat.lt_of_lt_of_le (hI.safe b i hs).1 zS,(hI.safe b i hs).2⟩,hI.fin,Nat.le_trans hI.bw zS,hI.thaw_le hle λ_ _ hs=>hs,hI.mps_tr hle (λ_ _ _ _ _ h=>h) hkp λ_ _ hs=>.inl hs,hI.lps_tr (λ_ _ _ h=>h) λb r hb=>RowKit.Below.heap_alloc _ _ _ (Array.getElem?_eq_some_iff.1 hb).1⟩,hle,hkp,λ_ _ hs=>.inl hs,λ_ hb=>.inr hb⟩;intro n c g fz cs hn;obtain⟨b,bs,h1,h2,c',t,h3,h4,h5⟩:=hI.obj _ _ _ _ _ hn;exact⟨b,bs,h1,h2,c',t,(RowKit.Below.heap_alloc _ _ _ (hI.lt hn h1)).trans h3,h4,h5.mono hle⟩
theorem Goes.newLp{X0 X:Cx}{H0 H:Heap}(h:Goes X0 H0 X H){l ol:Nat}{r:Loop}(hl:X.w.heap[l]?=some (.loop r))(hlo:X0.w.heap.size<=l\/LiveB X0 H0 l)(hno:∀ o r,o≠ol->H o=.lp l r->False):Goes X0 H0 X (upd H ol (.lp l r)):=by
 have hI:=h.inv
 have hc:∀ o c g fz cs,upd H ol (.lp l r) o=.cells c g fz cs->H o=.cells c g fz cs:=λo c g fz cs ho=>by
  by_cases e:o=ol
  subst e;rw[Z3]at ho;cases ho;rwa [Zi _ _ e]at ho
 have hL:∀ o b r',upd H ol (.lp l r) o=.lp b r'->(o=ol/\b=l/\r'=r)\/(o≠ol/\H o=.lp b r'):=λo b r' ho=>by
  by_cases e:o=ol
  subst e;rw[Z3]at ho;cases ho;exact .inl ⟨rfl,rfl,rfl⟩;rw[Zi _ _ e]at ho;exact .inr ⟨e,ho⟩
 refine⟨⟨λo c g fz cs ho=>hI.obj _ _ _ _ _ (hc _ _ _ _ _ ho),λo1 c1 g1 f1 l1 o2 c2 g2 f2 l2 b s1 s2 h1 h2=>hI.inj o1 c1 g1 f1 l1 o2 c2 g2 f2 l2 b s1 s2 (hc _ _ _ _ _ h1) (hc _ _ _ _ _ h2),
  λb i hs=>⟨(hI.safe b i hs).1,λo c g fz cs bs ho=>(hI.safe b i hs).2 o c g fz cs bs (hc _ _ _ _ _ ho)⟩,hI.fin,hI.bw,hI.thaw,hI.mps_tr (.refl X) (λo lo b ks vs ho=>?_) (Keep.refl _ _) (λ_ _ hs=>.inl hs),?_⟩,h.le,h.kp,h.Sn,Zmd (λo b r' ho=>?_) λb ⟨o,c,g,fz,cs,bs,ho,hβ⟩=>h.on b (.inl ⟨o,c,g,fz,cs,bs,hc _ _ _ _ _ ho,hβ⟩)⟩
 by_cases e:o=ol
 subst e;rw[Z3]at ho;cases ho;rwa [Zi _ _ e]at ho;intro o b r' ho
 rcases hL _ _ _ ho with ⟨rfl,rfl,rfl⟩|⟨e,h1⟩
 refine⟨hl,λo' r2 ho'=>?_⟩
 rcases hL _ _ _ ho' with ⟨q,_⟩|⟨q,h2⟩
 exact q;exact(hno _ _ q h2).elim;obtain⟨h2,h3⟩:=hI.lps _ _ _ h1;refine⟨h2,λo' r2 ho'=>?_⟩
 rcases hL _ _ _ ho' with ⟨_,rfl,_⟩|⟨_,q⟩
 exact(hno _ _ e h1).elim;exact h3 _ _ q
 rcases hL _ _ _ ho with ⟨_,rfl,_⟩|⟨_,h1⟩
 exact hlo;exact h.on b (.inr ⟨o,r',h1⟩)
theorem Zrp{X Y:Cx}{H H':Heap}(hI:Inv X H)(h:Goes X H Y H'){b:Nat}{o o':Obj}(hb:X.w.heap[b]?=some o)(ho:Z6d o=true)(ho':Z6d o'=true)(hn:¬ LiveB X H b):
  Goes { X with w:=X.w.putObj b o' } H { Y with w:=Y.w.putObj b o' } H':=by
 have hlt:=(Array.getElem?_eq_some_iff.1 hb).1;have hby:Y.w.heap[b]?=some o:=(h.kp.block b hlt hn).trans hb
 have hnl:∀ n r,H' n=.lp b r->False:=λn r hr=>by
  rcases h.on b (.inr ⟨n,r,hr⟩)with q|q
  omega;exact hn q
 have hY:=Goes.turn (X0:={ Y with w:={ Y.w with heap := #[] } }) (H0:=H') (X:=Y) (H:=H') (H':=H') (o':=o') ⟨h.inv,⟨λ_ _ _ h=>h,λ_ _ h=>h,λ_ _ _ _ hc=>by simp[Cx.cell,World.cell?]at hc,rfl,λ_ _ _ hc=>by simp at hc,λ_ _ _ _ hc=>by simp at hc⟩,⟨rfl,rfl,rfl,zS,λk hk _=>by simp at hk⟩,λ_ _ hs=>.inl hs,λ_ _=>.inl zS⟩ hby ho ho' (.inl zS) (λ_=>.inl rfl) (λn r hr=>(hnl n r hr).elim)
 have hne:∀ {k:Nat} {o1:Obj},Z6d o1=false->(X.w.putObj b o').heap[k]?=some o1->k≠b:=λh1 h2 e=>by
  subst e;rw[World.putObj_heap_same hlt]at h2;cases h2;rw[ho']at h1;cases h1
 have hcell:∀ {k i:Nat} {x:Value},(X.w.putObj b o').cell? ⟨k,i,none⟩=some x->k≠b:=λhc e=>by
  subst e;unfold World.cell? at hc;rw[World.putObj_heap_same hlt]at hc
  cases o'<;>simp[Z6d]at ho' hc
 refine⟨hY.inv,⟨h.le.β,h.le.S,λk i x hs hc=>?_,h.le.base,λk c t hk=>?_,λk es n hs hk=>?_⟩,⟨h.kp.os,h.kp.tape,h.kp.output,by simp only[World.putObj_size];exact h.kp.size,λk hk hkn=>?_⟩,λk i hs=>by simp only[World.putObj_size];exact h.Sn k i hs,λk hk=>by simp only[World.putObj_size];exact h.on k hk⟩;have e:=hcell hc
 have h1:X.cell k i=some x:=by
  show X.w.cell? _=_
  rw[<- World.cell?_of_block (w:=X.w) (a:=⟨k,i,none⟩) (World.putObj_heap_other (o:=o') e)];exact hc
 have h2:=h.le.cell k i x hs h1
 show(Y.w.putObj b o').cell? _=_
 rw[World.cell?_of_block (w:=Y.w) (a:=⟨k,i,none⟩) (World.putObj_heap_other e)];exact h2;have e:=hne rfl hk;obtain⟨c',h1,h2⟩:=h.le.blk k c t ((World.putObj_heap_other e).symm.trans hk);exact⟨c',(World.putObj_heap_other e).trans h1,h2⟩;have e:=hne rfl hk;exact(World.putObj_heap_other e).trans (h.le.map k es n hs ((World.putObj_heap_other e).symm.trans hk));simp only[World.putObj_size]at hk
 by_cases e:k=b
 subst e
 show(Y.w.putObj k o').heap[k]?=(X.w.putObj k o').heap[k]?
 rw[World.putObj_heap_same hlt,World.putObj_heap_same (Nat.lt_of_lt_of_le hlt h.kp.size)];exact(World.putObj_heap_other e).trans ((h.kp.block k hk hkn).trans (World.putObj_heap_other e).symm)
def setP:List Nat->List V->(Nat->V)->Nat->V
 |p::ps,v::vs,τ => setP ps vs (upd τ p v)
 |_,_,τ => τ
theorem Zp5{X:Cx}:∀ (ps:List Nat) (cs:List Value) (vs:List V) (tmps:Array Value) (τ : Nat->V),cs.length=ps.length->vs.length=ps.length->(∀ p∈ps,p<tmps.size)->(∀ i (h1:i<cs.length) (h2:i<vs.length),Rel X cs[i] vs[i])->(∀ t,Rel X (tmps.getD t undef) (τ t)) ->
  (((ps.zip cs).foldl (fun(tmps:Array Value) p=>tmps.setIfInBounds p.1 p.2) tmps).size=tmps.size/\∀ t,Rel X (((ps.zip cs).foldl (fun(tmps:Array Value) p=>tmps.setIfInBounds p.1 p.2) tmps).getD t undef) (setP ps vs τ t))
 |[],_,_,_,_,_,_,_,_,ht=>⟨rfl,ht⟩
 |p::ps,[],_,_,_,h1,_,_,_,_=>by simp at h1
 |p::ps,_::_,[],_,_,_,h2,_,_,_=>by simp at h2
 |p::ps,c::cs,v::vs,tmps,τ,h1,h2,hp,hr,ht=>by
  have:=Zp5 ps cs vs (tmps.setIfInBounds p c) (upd τ p v) (zu h1) (zu h2) (λx hx=>by simp;exact hp x (by simp[hx])) (λi q1 q2=>hr (i+1) (zu q1) (zu q2)) (λt=>?_);simp only[List.zip_cons_cons,List.foldl_cons,setP];exact⟨by rw[this.1];simp,this.2⟩
  by_cases e:t=p
  subst e;have:t<tmps.size:=hp t zS;rw[Z3];simp[this];exact hr 0 zS zS;rw[Zi _ _ e]
  have:(tmps.setIfInBounds p c).getD t undef=tmps.getD t undef:=by
   simp[Array.getD_eq_getD_getElem?,Array.getElem?_setIfInBounds_ne (Ne.symm e)]
  rw[this];exact ht t
def YfSp(P:Program)(G:Nat->V)(lo:Nat)(f:FuncId)(A:V->List V)(H:Heap){κ : Type}(enc : κ -> List V)(xs:List κ)(res:Bool->V)(Pp:Heap->Prop:=λ_=>True):Prop:=
 ∀ (X:Cx) (t:Fn) (cl:List V) (σ : Type) (R : σ -> Heap->Prop) (dom : σ -> κ -> Prop) (nx : σ -> κ -> Bool × σ) (s0 : σ),Yd P G X lo t cl enc R dom nx->Z0o dom nx s0 xs->R s0 (Zia lo H)->(∀ s H,R s (Zia lo H)->Pp (Zia lo H))->Inv X H->(∀ g,RelG X g (G g))->∀ cargs,RelA X cargs (A (.func t [] cl)) ->
  Calls P f cargs X.w (λe w'=>∃ c Y H',e=.returned c/\Rel Y c (res (Zla nx s0 xs).1)/\Y.w=w'/\Goes X H Y H'/\R (Zla nx s0 xs).2 (Zia lo H'))
def ItSp(P:Program)(G:Nat->V)(lo:Nat)(f:FuncId)(caps:List V)(H:Heap){κ : Type}(enc : κ -> List V)(xs:List κ)(Pp:Heap->Prop:=λ_=>True):Prop:=YfSp P G lo f (λy=>y::caps) H enc xs (λ_=>.top) Pp
theorem Zdc(k:RK){G:Nat->V}{lo:Nat}{f:FuncId}{A:V->List V}{H:Heap}{κ : Type}{enc : κ -> List V}{xs:List κ}{res:Bool->V}{Pp:Heap->Prop}{fn:Func}{c:Code}(q n m:Nat)(rs:List ResultVar)(hf:P.funcs[f]?=some fn)
  (h:∀ (X:Cx) (t:Fn) (cl:List V) (σ : Type) (R : σ -> Heap->Prop) (dom : σ -> κ -> Prop) (nx : σ -> κ -> Bool × σ) (s0 : σ),Yd P G X lo t cl enc R dom nx->Z0o dom nx s0 xs->R s0 (Zia lo H)->(∀ s H,R s (Zia lo H)->Pp (Zia lo H)) ->
   AW P ⟨X,H,n,q,G,none,[],k⟩ c (Zeg P rs (λv H'=>(v=res (Zla nx s0 xs).1\/res (Zla nx s0 xs).1=.top)/\R (Zla nx s0 xs).2 (Zia lo H'))) ⟨Zve 0 (A (.func t [] cl)),H⟩)
  (hb:fn.body=some c:=by rfl) (hn:fn.ntmps=n:=by rfl) (hr:fn.results.toList=rs:=by rfl) (hA:∀ v,(A v).length=m:=by exact λ_=>rfl) (hn0:Nat.ble m n=true:=by rfl) (hk:k=.plain\/k=.marks:=by first|exact .inl rfl|exact .inr rfl):YfSp P G lo f A H enc xs res Pp:=by
 subst hn hr;intro X t cl σ R dom nx s0 hy hd hR hP hI hG cargs hA';refine(Znj hk (λ_=>rfl) q hf hb (by rw[hA];exact hn0) hI hG hA' (h X t cl σ R dom nx s0 hy hd hR hP)).mono ?_;rintro e w' ⟨c,v,H',Y,⟨rfl,h1,h2⟩|⟨k,hk,_⟩,a2,a3,a4⟩;refine⟨c,Y,H',rfl,?_,a2,a3,h2⟩
 rcases h1 with h1|h1
 rw[<- h1];exact a4;rw[h1];exact .top _;cases hk
theorem Zvf{ops:Array Oper}{R0:Exit->Act->World->Prop}{st:AS}{K:AS->Prop}{dst:Option Nat}{f:Operand}{args:Array Operand}{ats:Array TypeId}{ty:TypeId}{pos:String}{af:Array Edge}{gd:Option (Nat×Bool)}{t:Fn}{cl:List V}
  {lo:Nat} {σ κ : Type} {enc : κ -> List V} {R : σ -> Heap->Prop} {dom : σ -> κ -> Prop} {nx : σ -> κ -> Bool × σ} (hy:Yd P E.G E.X0 lo t cl enc R dom nx) (s : σ) (k : κ) (hf:st.ev E f=.func t [] cl) (ha:args.toList.map (st.ev E)=enc k) (hdm:dom s k) (hR:R s (Zia lo st.H))
  (hK:∀ H2,R (nx s k).2 (Zia lo H2)->(∀ o,o<lo->H2 o=st.H o)->K (AS.put ⟨st.τ,H2⟩ dst (.bool (nx s k).1))) (hd:(ops.all (Z7b E.n))=true) {n:Nat} (ho:ops[n]?=some ⟨dst,.call ⟨.value f,args,ats⟩,ty,pos,af,gd⟩) (hw:Zz ops st.τ ⟨dst,.call ⟨.value f,args,ats⟩,ty,pos,af,gd⟩=some true):
  HandX P E ops R0 ⟨dst,.call ⟨.value f,args,ats⟩,ty,pos,af,gd⟩ st K:=by
 refine .inl ⟨hw,λX a hX=>Zdv hX hd ho hf hy.cap λcargs hA=>?_⟩;rw[ha]at hA;refine(hy.sp s k X st.H cargs hdm hX.go.le (Zus hX.go.inv _).inv hR hX.gl hA).mono ?_;rintro e w' ⟨Z,H',rfl,rfl,hg,hR'⟩;exact⟨_,_,Z,_,rfl,rfl,Zdh hX.go.inv hg,.bool _,hK _ (by rw[Zcma];exact hR') λo ho=>if_neg zo⟩
theorem Zzm{ops:Array Oper}{R0:Exit->Act->World->Prop}{st:AS}{K:AS->Prop}{dst:Option Nat}{f:Operand}{args:Array Operand}{ats:Array TypeId}{ty:TypeId}{pos:String}{af:Array Edge}{gd:Option (Nat×Bool)}{fid:FuncId}{cc:List V}{t:Fn}{cl:List V}{A:V->List V}{res:Bool->V}
  {lo:Nat} {σ κ : Type} {enc : κ -> List V} {xs:List κ} {R : σ -> Heap->Prop} {dom : σ -> κ -> Prop} {nx : σ -> κ -> Bool × σ} {Pp:Heap->Prop} (lo1:Nat) (h01:lo1<=lo) (hyf:YfSp P E.G lo fid A (Zia lo1 st.H) enc xs res Pp) (hen:Z2 P fid=true) (hy:∀ X,E.X0.le X->Yd P E.G X lo t cl enc R dom nx) (s0 : σ) (hf:st.ev E f=.func (.func fid) [] cc)
  (ha:args.toList.map (st.ev E)++cc=A (.func t [] cl)) (hdm:Z0o dom nx s0 xs) (hR:R s0 (Zia lo st.H))
  (hK:∀ H2,R (Zla nx s0 xs).2 (Zia lo H2)->(∀ o,o<lo1->H2 o=st.H o)->K (AS.put ⟨st.τ,H2⟩ dst (res (Zla nx s0 xs).1))) (hd:(ops.all (Z7b E.n))=true) {n:Nat} (ho:ops[n]?=some ⟨dst,.call ⟨.value f,args,ats⟩,ty,pos,af,gd⟩) (hw:Zz ops st.τ ⟨dst,.call ⟨.value f,args,ats⟩,ty,pos,af,gd⟩=some true) (hP:∀ s H,R s (Zia lo H)->Pp (Zia lo H)):
  HandX P E ops R0 ⟨dst,.call ⟨.value f,args,ats⟩,ty,pos,af,gd⟩ st K:=by
 refine .inl ⟨hw,λX a hX=>Zdv hX hd ho hf (λ_ h=>by cases h) λcargs hA=>⟨hen,?_⟩⟩;rw[ha]at hA;have hm:Zia lo (Zia lo1 st.H)=Zia lo st.H:=Z9g _ h01;refine(hyf X t cl σ R dom nx s0 (hy X hX.go.le) hdm (by rw[hm];exact hR) hP (Zus hX.go.inv _).inv hX.gl cargs hA).mono ?_;rintro e w' ⟨c,Z,H',rfl,hr,rfl,hg,hR'⟩;refine⟨_,_,Z,_,rfl,rfl,Zdh hX.go.inv hg,hr,hK _ ?_ λo ho=>if_neg zo⟩
 have:Zia lo (low lo1 st.H H')=Zia lo H':=Z7h λo q=>by rw[low,if_pos (Nat.le_trans h01 q),Z7g]
 rw[this];exact hR'
def RdOk(X:Cx)(H:Heap)(l:Nat):Prop:=(∃ r,X.w.heap[l]?=some (.loop r))/\¬ LiveB X H l
def Zqu{σ κ : Type}(I : σ -> Heap->Prop)(nx : σ -> κ -> σ)(jm : σ -> Option Code)(lo ol:Nat)(s : σ)(k : κ):Exit->AS->Prop
 |.normal,s'=>jm (nx s k)=none/\I (nx s k) (upd (Zia lo s'.H) ol .dead)
 |.ret,s'=>jm (nx s k)=some .ret/\I (nx s k) (upd (Zia lo s'.H) ol .dead)
 |.exit id,s'=>jm (nx s k)=some (.exit id)/\I (nx s k) (upd (Zia lo s'.H) ol .dead)
 |_,_=>False
theorem Z7ka{st:AS}{a:Act}{X X1:Cx}{ps:Array Tmp}{assign body:Code}{σ κ : Type}{enc : κ -> List V}(lo ol q' l dn:Nat)(fn:FuncId)(I : σ -> Heap->Prop)(nx : σ -> κ -> σ)(jm : σ -> Option Code)(D : σ -> κ -> Prop)(hlo:lo<=ol)
  (hX:SatX E X st a X.w) (hle:X.le X1) (hps:∀ p∈ps.toList,p<E.n) (hpl:∀ k,(enc k).length=ps.size)
  (hround:∀ Y s k H,E.X0.le Y->RdOk Y (upd (Zia lo H) ol .dead) l->D s k->jm s=none->I s (upd (Zia lo H) ol .dead) ->
   AW P ⟨Y,upd (Zia lo H) ol .dead,E.n,q',E.G,none,[],.round l⟩ assign (λe s1=>e=.normal/\∀ Z,E.X0.le Z->RdOk Z (upd (Zia lo H) ol .dead) l->AW P ⟨Z,upd (Zia lo H) ol .dead,E.n,q',E.G,none,[],.round l⟩ body (Zqu I nx jm lo ol s k) s1) ⟨setP ps.toList (enc k) st.τ,upd (Zia lo H) ol .dead⟩):
  Yd P E.G X1 lo (.yield l) [] enc (λs H=>H ol=.lp l { state:=if(jm s).isNone then .ready else .done,pending:=jm s,fn,tmps:=a.tmps,params:=ps,assign,body,defers:=dn }/\I s (upd H ol .dead)) (λs k=>D s k/\jm s=none) (λs k=>((jm (nx s k)).isNone,nx s k)):=by
 refine⟨λ_ _=>rfl,?_⟩;rintro s k Y H cargs ⟨hD,hj⟩ hXY hI ⟨hol,hIs⟩ hG hA;rw[hj]at hol;simp only[Option.isNone_none,if_true]at hol;rw[List.append_nil]at hA;obtain⟨hl,huniq⟩:=hI.lps _ _ _ hol;have hlt:=(Array.getElem?_eq_some_iff.1 hl).1
 have hsz:cargs.size=ps.size:=by rw[hA.len];exact hpl k
 have hsub:Goes Y (Zia lo H) Y (upd (Zia lo H) ol .dead):=Goes.sub hI λo=>by
  by_cases e:o=ol
  subst e;exact .inl (Z3 ..);exact .inr (Zi _ _ e)
 have hnl:¬ LiveB Y (upd (Zia lo H) ol .dead) l:=by
  rintro(⟨o,c,g,fz,cs,bs,ho,hβ⟩|⟨o,r,ho⟩);obtain⟨b,bs',h1,_,c',t,h2,_⟩:=hsub.inv.obj _ _ _ _ _ ho;rw[hβ]at h1;cases h1;rw[hl]at h2;cases h2
  by_cases e:o=ol
  subst e;rw[Z3]at ho;cases ho;rw[Zi _ _ e]at ho;exact e (huniq _ _ ho)
 let r0:Loop:={ state:=.ready,pending:=none,fn,tmps:=a.tmps,params:=ps,assign,body,defers:=dn }
 have hy:=run_yield (P:=P) (args:=cargs) hl hsz;refine⟨_,_,_,_,hy,roundIn_of_wpIn (F:=Fence.wide) trivial ?_⟩
 have hf:((ps.zip cargs).foldl (λtmps (x:Tmp×Value)=>tmps.setIfInBounds x.1 x.2) a.tmps)=((ps.toList.zip cargs.toList).foldl (fun(tmps:Array Value) p=>tmps.setIfInBounds p.1 p.2) a.tmps):=by
  rw[<- Array.foldl_toList,Array.toList_zip]
 obtain⟨h1,h2⟩:=Zp5 (X:=Y) ps.toList cargs.toList (enc k) a.tmps st.τ (by simp[hsz]) (by simp[hpl]) (λp hp=>by rw[hX.sz];exact hps p hp) (λi q1 q2=>by simpa using hA.rel i (zu q1) q2) (λt=>((hX.tm t).mono hle).mono hXY);have hrd:RdOk Y (upd (Zia lo H) ol .dead) l:=⟨⟨_,hl⟩,hnl⟩;have hEY:E.X0.le Y:=(hX.go.le.trans hle).trans hXY
 have haw:=hround Y s k H hEY hrd hD hj hIs { tmps:=(ps.zip cargs).foldl (λtmps (x:Tmp×Value)=>tmps.setIfInBounds x.1 x.2) a.tmps,defers:=[] } Y.w
  ⟨Y,rfl,(Goes.refl hsub.inv).gn (Ent.N_le _),⟨rfl,λi h1 h2=>by simp at h1⟩,by show Array.size _=_;rw[hf,h1];exact hX.sz,λt=>by show Rel Y (Array.getD _ t undef) _;rw[hf];exact h2 t,hG⟩
 refine wpIn_mono haw ?_;rintro e a1 w1 (⟨s1,⟨X3,hX3⟩,rfl,hbody⟩|⟨ch,rfl,hp⟩);rotate_left;exact(hp.no rfl).elim;have hw1:=hX3.hw;subst hw1;have hl3:X3.w.heap[l]?=some (.loop r0):=(hX3.gz.kp.block l hlt hnl).trans hl;refine⟨X3.w.putObj l (.loop { r0 with state:=.busy }),run_beginRound hl3 rfl,?_⟩;have hgo:=Zrp hsub.inv hX3.gz hl rfl (o':=.loop { r0 with state:=.busy }) rfl hnl;have hl2:({ Y with w:=Y.w.putObj l (.loop { r0 with state:=.busy }) }:Cx).w.heap[l]?=some (.loop { r0 with state:=.busy }):=World.putObj_heap_same hlt;have hnl2:¬ LiveB { Y with w:=Y.w.putObj l (.loop { r0 with state:=.busy }) } (upd (Zia lo H) ol .dead) l:=hnl
 have hb:=hbody { Y with w:=Y.w.putObj l (.loop { r0 with state:=.busy }) } (hEY.trans (Z7d _ hl rfl)) ⟨⟨_,hl2⟩,hnl2⟩ a1 _ ⟨{ X3 with w:=X3.w.putObj l (.loop { r0 with state:=.busy }) },rfl,hgo.gn (Ent.N_le _),⟨hX3.df.1,λi h1 h2=>by
  have:=DefR.nil (k:=.round l) hX3.df
  rw[this]at h1;simp at h1⟩,hX3.sz,λt=>(hX3.tm t).mono (Z7d _ hl3 rfl),λg=>(hX3.gl g).turn _ hl3 rfl⟩
 refine wpIn_mono hb ?_;rintro e a4 w4 (⟨s4,⟨X4,hX4⟩,hq⟩|⟨ch,rfl,hp⟩);rotate_left;exact(hp.no rfl).elim;have hw4:=hX4.hw;subst hw4;have hl4:X4.w.heap[l]?=some (.loop { r0 with state:=.busy }):=(hX4.gz.kp.block l (by rw[World.putObj_size];exact hlt) hnl2).trans hl2
 have hend:∀ jump:Option Code,Goes Y (Zia lo H) { X4 with w:=X4.w.putObj l (.loop { r0 with state:=if jump.isNone then .ready else .done,pending:=jump }) } (upd s4.H ol (.lp l { r0 with state:=if jump.isNone then .ready else .done,pending:=jump })):=λjump=>by
  have g1:=Zrp (X:={ Y with w:=Y.w.putObj l (.loop { r0 with state:=.busy }) }) (by
   have:=Zrp hsub.inv (Goes.refl hsub.inv) hl rfl (o':=.loop { r0 with state:=.busy }) rfl hnl
   exact this.inv) hX4.gz hl2 rfl (o':=.loop r0) rfl hnl2
  have e:({ Y with w:=Y.w.putObj l (.loop { r0 with state:=.busy }) }:Cx).w.putObj l (.loop r0)=Y.w:=by
   show World.putObj (World.putObj Y.w l _) l _=_
   unfold World.putObj;simp only[Array.setIfInBounds_setIfInBounds]
   have:Y.w.heap.setIfInBounds l (.loop r0)=Y.w.heap:=by
    apply Array.ext_getElem?;intro i;rw[Array.getElem?_setIfInBounds]
    split
    rename_i q;subst q;exact hl.symm;rfl
   rw[this]
  rw[e]at g1;have g2:Goes Y (Zia lo H) { X4 with w:=X4.w.putObj l (.loop r0) } s4.H:=hsub.trans g1;have hlv:LiveB Y (Zia lo H) l:=.inr ⟨ol,_,hol⟩
  have hno:∀ n r,s4.H n=.lp l r->False:=λn r hr=>by
   rcases hX4.gz.on l (.inr ⟨n,r,hr⟩)with q|q
   rw[World.putObj_size]at q;omega;exact hnl2 q
  have hlt4:=(Array.getElem?_eq_some_iff.1 hl4).1;have g3:=Goes.turn g2 (b:=l) (o:=.loop r0) (o':=.loop { r0 with state:=if jump.isNone then .ready else .done,pending:=jump }) (World.putObj_heap_same hlt4) rfl rfl (.inr hlv) (H':=s4.H) (λ_=>.inl rfl) (λn r hr=>(hno n r hr).elim)
  have e2:({ X4 with w:=X4.w.putObj l (.loop r0) }:Cx).w.putObj l (.loop { r0 with state:=if jump.isNone then .ready else .done,pending:=jump })=X4.w.putObj l (.loop { r0 with state:=if jump.isNone then .ready else .done,pending:=jump }):=by
   show World.putObj (World.putObj X4.w l _) l _=_
   unfold World.putObj;simp only[Array.setIfInBounds_setIfInBounds]
  rw[e2]at g3;exact g3.newLp (World.putObj_heap_same hlt4) (.inr hlv) (λn r _ hr=>hno n r hr)
 have hrun:∀ jump:Option Code,(Instr.endRound l jump).run P X4.w=.ok (.bool jump.isNone) (X4.w.putObj l (.loop { r0 with state:=if jump.isNone then .ready else .done,pending:=jump })):=λjump=>run_endRound (r:={ r0 with state:=.busy }) jump hl4
 have fin:∀ jump:Option Code,jm (nx s k)=jump->I (nx s k) (upd (Zia lo s4.H) ol .dead)->∃ v w',(Instr.endRound l jump).run P X4.w=.ok v w' /\
   ∃ Z H',Ending.returned v=.returned (.bool (jm (nx s k)).isNone)/\Z.w=w'/\Goes Y (Zia lo H) Z H'/\(Zia lo H' ol=.lp l { state:=if(jm (nx s k)).isNone then .ready else .done,pending:=jm (nx s k),fn,tmps:=a.tmps,params:=ps,assign,body,defers:=dn }/\I (nx s k) (upd (Zia lo H') ol .dead)):=by
  rintro jump rfl hI4;refine⟨_,_,hrun _,_,_,rfl,rfl,hend _,?_,?_⟩;rw[Z6j,if_pos hlo,Z3];rfl;rw[Z6j,if_pos hlo];simp only[AObj.noMp]
  have:upd (upd (Zia lo s4.H) ol (.lp l { r0 with state:=if(jm (nx s k)).isNone then .ready else .done,pending:=jm (nx s k) })) ol .dead=upd (Zia lo s4.H) ol .dead:=by
   funext o
   simp only[upd]
   split<;>rfl
  rw[this];exact hI4
 cases e with
 |normal=>exact fin none hq.1 hq.2
 |ret=>exact fin (some .ret) hq.1 hq.2
 |exit id=>exact fin (some (.exit id)) hq.1 hq.2
 |goto t=>exact hq.elim
 |panic ch=>exact hq.elim
 |outgrown=>exact hq.elim
theorem Zfaa{st:AS}{a:Act}{X:Cx}(hX:SatX E X st a X.w)(hrk:E.rk ≠ .plain)(hro:∀ l0,E.rk=.round l0->RdOk E.X0 E.H0 l0)(fn:FuncId)(ps:Array Tmp)(assign body:Code)(hri:E.rk.isInl=false):
  ∃ l mark w1 dn,(Instr.enterLoop fn a.tmps ps assign body E.rk.F.round).run P X.w=.ok (l,mark) w1/\X.w.heap.size<=l/\w1.heap[l]?=some (.loop { state:=.ready,pending:=none,fn,tmps:=a.tmps,params:=ps,assign,body,defers:=dn }) /\
   Goes X st.H { X with w:=w1 } st.H/\DefR E.rk E.X0.w.heap.size { X with w:=w1 } (mark++a.defers) E.df:=by
 have hI:=hX.go.inv;have hdf:=hX.df;have hro2:E.rk.F.round=E.rk.ro:=rfl;rw[hro2]
 cases hr:E.rk with
 |plain=>exact absurd hr hrk
 |inl N=>rw[hr]at hri;cases hri
 |marks=>
  rw[hr]at hdf;have g1:=Zwt hI (.deferred (some []));have g2:=Zwt g1.inv (.loop { state:=.ready,pending:=none,fn,tmps:=a.tmps,params:=ps,assign,body,defers:=X.w.heap.size });have g:=g1.trans g2
  have hD:((X.w.alloc (.deferred (some []))).alloc (.loop { state:=.ready,pending:=none,fn,tmps:=a.tmps,params:=ps,assign,body,defers:=X.w.heap.size })).heap[X.w.heap.size]?=some (.deferred (some [])):=
   (RowKit.Below.heap_alloc _ _ _ zS).trans (World.alloc_heap_new X.w _)
  refine⟨_,_,_,X.w.heap.size,run_enterLoop_outer fn a.tmps ps assign body,zo,?_,g,hdf.1,⟨X.w.heap.size,rfl,hX.go.kp.size,hD,λe he q=>?_⟩,(DefR.go (k:=.marks) hdf hI g).2⟩;have:=World.alloc_heap_new (X.w.alloc (.deferred (some []))) (.loop { state:=.ready,pending:=none,fn,tmps:=a.tmps,params:=ps,assign,body,defers:=X.w.heap.size });rwa [World.size_alloc]at this
  have key:∀ {ds:List Deferred},Marks E.X0.w.heap.size X.w ds->∀ e∈ds,∀ D,e.target=.collected D->D<X.w.heap.size:=by
   intro ds
   induction ds with
   |nil=>intro _ e he;cases he
   |cons d r ih=>
    rintro⟨⟨D,h1,_,h3,_⟩,h5⟩ e he D' hD'
    rcases List.mem_cons.1 he with rfl|he
    rw[h1]at hD';cases hD';exact(Array.getElem?_eq_some_iff.1 h3).1;exact ih h5 e he D' hD'
  have:=key hdf.2 e he _ q;omega
 |round l0=>
  obtain⟨⟨r0,hr0⟩,hnl⟩:=hro l0 hr;have h0:X.w.heap[l0]?=some (.loop r0):=((hX.gz hri).kp.block l0 (Array.getElem?_eq_some_iff.1 hr0).1 hnl).trans hr0;have g:=Zwt hI (.loop { state:=.ready,pending:=none,fn,tmps:=a.tmps,params:=ps,assign,body,defers:=r0.defers });rw[hr]at hdf;exact⟨_,_,_,r0.defers,run_enterLoop_inner h0 fn a.tmps ps assign body,Nat.le_refl _,World.alloc_heap_new X.w _,g,DefR.go (k:=.round l0) hdf hI g⟩
theorem AW.range{g:Operand}{ps:Array Tmp}{assign body:Code}{Q:Exit->AS->Prop}{st:AS}{gf:FuncId}{caps:List V}{σ κ : Type}{enc : κ -> List V}{xs:List κ}(lo1 lo ol q':Nat)(I : σ -> Heap->Prop)(nx : σ -> κ -> σ)(jm : σ -> Option Code)(D : σ -> κ -> Prop)(s0 : σ)
  (hg:st.ev E g=.func (.func gf) [] caps) (hen:Z2 P gf=true) (hro:∀ l0,E.rk=.round l0->RdOk E.X0 E.H0 l0) (hps:∀ p∈ps.toList,p<E.n) (hpl:∀ k,(enc k).length=ps.size) (h01:lo1<=lo) (hlo:lo<=ol)
  {Pp:Heap->Prop} (hit:∀ l r,ItSp P E.G lo gf caps (upd (Zia lo1 st.H) ol (.lp l r)) enc xs Pp) (hPp:∀ s H,I s (upd H ol .dead)->Pp H) (hj:jm s0=none) (hI0:I s0 (upd (Zia lo st.H) ol .dead))
  (hD:Z0o (λs k=>D s k/\jm s=none) (λs k=>((jm (nx s k)).isNone,nx s k)) s0 xs)
  (hround:∀ l Y s k H,E.X0.le Y->RdOk Y (upd (Zia lo H) ol .dead) l->D s k->jm s=none->I s (upd (Zia lo H) ol .dead) ->
   AW P ⟨Y,upd (Zia lo H) ol .dead,E.n,q',E.G,none,[],.round l⟩ assign (λe s1=>e=.normal/\∀ Z,E.X0.le Z->RdOk Z (upd (Zia lo H) ol .dead) l->AW P ⟨Z,upd (Zia lo H) ol .dead,E.n,q',E.G,none,[],.round l⟩ body (Zqu I nx jm lo ol s k) s1) ⟨setP ps.toList (enc k) st.τ,upd (Zia lo H) ol .dead⟩)
  (hafter:∀ H2,I (Zla (λs k=>((jm (nx s k)).isNone,nx s k)) s0 xs).2 (upd (Zia lo H2) ol .dead)->(∀ o,o<lo1->H2 o=st.H o)->H2 ol=.dead ->
   match jm (Zla (λs k=>((jm (nx s k)).isNone,nx s k)) s0 xs).2 with|none=>Q .normal ⟨st.τ,H2⟩|some c=>AW P E c Q ⟨st.τ,H2⟩)
  (hrk:E.rk ≠ .plain:=by exact RK.noConfusion) (hkp:E.kp=none:=by rfl) (hri:E.rk.isInl=false:=by rfl):AW P E (.rangeFunc g ps assign body) Q st:=by
 rintro a w ⟨X,hX⟩;have hw:=hX.hw;subst hw;refine wpIn_rangeFunc λfn _=>?_;obtain⟨l,mark,w1,dn,hent,hls,hl1,hgo1,hdf1⟩:=Zfaa (P:=P) hX hrk hro fn ps assign body hri;have hfv:=hX.ev g;rw[hg]at hfv;generalize hq:a.eval g=q at hfv
 cases hfv with
 |func _ xs0 ys _ _ hx hy hxr hyr=>
 have hx0:xs0 = #[]:=Array.eq_empty_of_size_eq_zero hx;subst hx0
 have hrun:(callFunc gf (#[.func (.yield l) #[] #[]]++ys)).run P w1=.ok (.enter gf (#[.func (.yield l) #[] #[]]++ys)) w1:=by
  unfold Z2 at hen
  split at hen
  rename_i fn hfn;simp only[Bool.and_eq_true]at hen;obtain⟨hn1,hn2⟩:=hen
  have hn1':(fn.name == "runtime.NumGoroutine")=false:=zu hn1
  have hn2':fn.body.isNone=false:=by cases hb:fn.body<;>simp_all
  simp only[callFunc,Sem.run_bind,run_program,Result.andThen_ok,hfn,hn1',hn2'];simp;simp at hen
 refine⟨l,mark,w1,{ target:=.fn (.func gf) ys,args := #[.func (.yield l) #[] #[]] },w1,gf,#[.func (.yield l) #[] #[]]++ys,w1,hent,?_,λ_ _=>trivial,?_,λh=>(by cases h),?_⟩;simp only[resolve,hq,Deferred.ofValue,Sem.run_pure];simp[go_sem];simp only[invoke,hrun];refine(E.rk.calls).2 ?_;have hI1:=hgo1.inv
 have hno:∀ o r,o≠ol->st.H o=.lp l r->False:=λo r _ ho=>by
  have:=(hX.go.inv.lps _ _ _ ho).1;have:=(Array.getElem?_eq_some_iff.1 this).1;omega
 have hgo2:=hgo1.newLp hl1 (.inl hls) hno
 have hmask:∀ r,upd (Zia lo1 st.H) ol (.lp l r)=Zia lo1 (upd st.H ol (.lp l r)):=λr=>by rw[Z6j,if_pos (Nat.le_trans h01 hlo)];rfl
 have hmask2:∀ r,Zia lo (upd (Zia lo1 st.H) ol (.lp l r))=upd (Zia lo st.H) ol (.lp l r):=λr=>by rw[Z6j,if_pos hlo,Z9g _ h01];rfl
 have hyd:=Z7ka (P:=P) (X1:={ X with w:=w1 }) lo ol q' l dn fn I nx jm D hlo hX hgo1.le hps hpl (hround l);have hI2:Inv { X with w:=w1 } (upd (Zia lo1 st.H) ol (.lp l { state:=.ready,pending:=none,fn,tmps:=a.tmps,params:=ps,assign,body,defers:=dn })):=hmask _ ▸ (Zus hgo2.inv lo1).inv
 have hcall:=hit l _ { X with w:=w1 } _ _ σ _ _ _ s0 hyd hD (by
  rw[hmask2,hj,Z3];refine⟨rfl,?_⟩
  have:upd (upd (Zia lo st.H) ol (.lp l { state:=.ready,pending:=none,fn,tmps:=a.tmps,params:=ps,assign,body,defers:=dn })) ol .dead=upd (Zia lo st.H) ol .dead:=by
   funext o
   simp only[upd]
   split<;>rfl
  rw[this];exact hI0) (λs H h=>hPp s _ h.2) hI2 (λg=>(hX.gl g).go hX.go.inv hgo1) (#[.func (.yield l) #[] #[]]++ys) ⟨by simp[hy];omega,λi h1 h2=>by
   cases i with
   |zero=>
    rw[Array.getElem_append_left zS];exact .func _ #[] #[] [] [] rfl rfl (λi h1 h2=>by simp at h2) (λi h1 h2=>by simp at h2)
   |succ i=>
    have:=hyr i (by simp at h1;omega) (zu h2);rw[Array.getElem_append_right zS]
    simpa using this.mono hgo1.le⟩
 refine hcall.mono ?_;rintro e w3 ⟨c,Y,H',rfl,_,rfl,hg3,hol3,hI3⟩;generalize hs:(Zla (λs k=>((jm (nx s k)).isNone,nx s k)) s0 xs).2=sf at *
 have hol3':H' ol=.lp l { state:=if(jm sf).isNone then .ready else .done,pending:=jm sf,fn,tmps:=a.tmps,params:=ps,assign,body,defers:=dn }:=by
  rw[Zrc hlo]at hol3;exact Zqfa hol3
 have hl3:=(hg3.inv.lps _ _ _ hol3').1;have hend:=run_endLoop (P:=P) hl3 (by simp only;split<;>simp);refine⟨jm sf,_,hend,?_⟩;rw[hmask]at hg3;have hg4:=((hX.gz hri).trans hgo2).trans (Zdh hgo2.inv hg3)
 have hlow:low lo1 (upd st.H ol (.lp l { state:=.ready,pending:=none,fn,tmps:=a.tmps,params:=ps,assign,body,defers:=dn })) H' ol=.lp l { state:=if(jm sf).isNone then .ready else .done,pending:=jm sf,fn,tmps:=a.tmps,params:=ps,assign,body,defers:=dn }:=by
  unfold low;rw[if_pos (Nat.le_trans h01 hlo),hol3'];rfl
 have hg5:=hg4.turn hl3 rfl (o':=.loop { state:=.exhausted,pending:=jm sf,fn,tmps:=a.tmps,params:=ps,assign,body,defers:=dn }) rfl (.inl (Nat.le_trans hX.go.kp.size hls))
  (H':=upd (low lo1 (upd st.H ol (.lp l { state:=.ready,pending:=none,fn,tmps:=a.tmps,params:=ps,assign,body,defers:=dn })) H') ol (.lp l { state:=.exhausted,pending:=jm sf,fn,tmps:=a.tmps,params:=ps,assign,body,defers:=dn }))
  (λn=>by
   by_cases e:n=ol
   subst e;exact .inr ⟨_,_,hlow,Z3 ..,rfl⟩
   exact .inl (Zi _ _ e)) (λn r hn=>by
   by_cases e:n=ol
   subst e
   left
   rw[Z3,hlow];intro h;simp only[AObj.lp.injEq,true_and,Loop.mk.injEq,and_true]at h
   split at h<;>cases h
   exact absurd ((hg4.inv.lps _ _ _ hlow).2 _ _ hn) e)
 have hg6:=hg5.trans (Goes.sub hg5.inv (H':=upd (low lo1 st.H H') ol .dead) λo=>by
  by_cases e:o=ol
  subst e;exact .inl (Z3 ..)
  right
  rw[Zi _ _ e,Zi _ _ e];simp only[low]
  split
  rfl
  rw[Zi _ _ e])
 have hle:X.le { Y with w:=Y.w.putObj l (.loop { state:=.exhausted,pending:=jm sf,fn,tmps:=a.tmps,params:=ps,assign,body,defers:=dn }) }:=(hgo2.le.trans hg3.le).trans (Z7d _ hl3 rfl)
 have hsat:Sat E ⟨st.τ,upd (low lo1 st.H H') ol .dead⟩ { a with defers:=mark++a.defers } (Y.w.putObj l (.loop { state:=.exhausted,pending:=jm sf,fn,tmps:=a.tmps,params:=ps,assign,body,defers:=dn })):=by
  refine⟨_,rfl,hg6.gn E.N_le,?_,hX.sz,λt=>(hX.tm t).mono hle,λg=>?_⟩;have hz:=(hdf1.go hgo2.inv (Zdh hgo2.inv hg3));refine hz.mono (Z7d _ hl3 rfl) λD hD=>World.putObj_heap_other λe=>?_;subst e;rw[hl3]at hD;cases hD;have:=((hX.gl g).go hX.go.inv hgo2).go hgo2.inv (Zdh hgo2.inv hg3);exact this.turn _ hl3 rfl
 have ha:=hafter (upd (low lo1 st.H H') ol .dead) (by
  have:upd (Zia lo (upd (low lo1 st.H H') ol .dead)) ol .dead=upd (Zia lo H') ol .dead:=by
   have e:Zia lo (low lo1 st.H H')=Zia lo H':=Z7h λo q=>by rw[low,if_pos (Nat.le_trans h01 q),Z7g]
   rw[Z6j,if_pos hlo,e]
   funext o
   simp only[upd]
   split<;>rfl
  rw[this];exact hI3) (λo ho=>by rw[Zi _ _ zo,low,if_neg zo]) (Z3 ..)
 cases hjm:jm sf with
 |none=>
  rw[hjm]at ha hsat;exact .inl ⟨_,hsat,ha⟩
 |some c=>
  rw[hjm]at ha hsat;exact ha _ _ hsat
theorem Zbs{σ κ : Type}(I : σ -> Heap->Prop)(nx : σ -> κ -> σ)(jm : σ -> Option Code)(lo ol:Nat)(s : σ)(k : κ)(s':AS):Zqu I nx jm lo ol s k .normal s'=(jm (nx s k)=none/\I (nx s k) (upd (Zia lo s'.H) ol .dead)):=rfl
theorem Zj8{σ κ : Type}(I : σ -> Heap->Prop)(nx : σ -> κ -> σ)(jm : σ -> Option Code)(lo ol:Nat)(s : σ)(k : κ)(s':AS):Zqu I nx jm lo ol s k .ret s'=(jm (nx s k)=some .ret/\I (nx s k) (upd (Zia lo s'.H) ol .dead)):=rfl
theorem Znea(p:Nat)(ps:List Nat)(v:V)(vs:List V)(τ : Nat->V):setP (p::ps) (v::vs) τ = setP ps vs (upd τ p v):=rfl
theorem Z2ka(τ : Nat->V):setP [] [] τ = τ := rfl
attribute[go_sem]Zbs Zj8 Znea Z2ka
theorem Zxh{g:Operand}{ps:Array Tmp}{assign body:Code}{Q:Exit->AS->Prop}{st:AS}{gf:FuncId}{caps:List V}{σ κ : Type}{enc : κ -> List V}{xs:List κ}(lo1 lo ol q':Nat)(S : σ -> Heap)(nx : σ -> κ -> σ)(jm : σ -> Option Code)(D : σ -> κ -> Prop)(s0 : σ)
  (hg:st.ev E g=.func (.func gf) [] caps) {Pp:Heap->Prop} (hit:∀ l r,ItSp P E.G lo gf caps (upd (Zia lo1 st.H) ol (.lp l r)) enc xs Pp) (hI0:upd (Zia lo st.H) ol .dead=S s0)
  (hD:Z0o (λs k=>D s k/\jm s=none) (λs k=>((jm (nx s k)).isNone,nx s k)) s0 xs)
  (hround:∀ l Y s k,RdOk Y (S s) l->D s k->jm s=none ->
   AW P ⟨Y,S s,E.n,q',E.G,none,[],.round l⟩ assign (λe s1=>e=.normal/\∀ Z,RdOk Z (S s) l->AW P ⟨Z,S s,E.n,q',E.G,none,[],.round l⟩ body (Zqu (λs H=>H=S s) nx jm lo ol s k) s1) ⟨setP ps.toList (enc k) st.τ,S s⟩)
  (hafter:∀ H2 sf,sf=(Zla (λs k=>((jm (nx s k)).isNone,nx s k)) s0 xs).2->upd (Zia lo H2) ol .dead=S sf->(∀ o,o<lo1->H2 o=st.H o) ->
   match jm sf with|none=>Q .normal ⟨st.τ,H2⟩|some c=>AW P E c Q ⟨st.τ,H2⟩)
  (hro:∀ l0,E.rk=.round l0->RdOk E.X0 E.H0 l0:=by exact λ_ h=>nomatch h) (hen:Z2 P gf=true:=by kernel_rfl) (hps:(ps.toList.all λp=>Nat.blt p E.n)=true:=by rfl) (hpl:∀ k,(enc k).length=ps.size:=by exact λ_=>rfl) (h01:lo1<=lo:=by decide) (hlo:lo<=ol:=by decide) (hj:jm s0=none:=by rfl)
  (hrk:E.rk ≠ .plain:=by exact RK.noConfusion) (hkp:E.kp=none:=by rfl) (hri:E.rk.isInl=false:=by rfl) (hPp:∀ s H,upd H ol .dead=S s->Pp H:=by exact λ_ _ _=>trivial):AW P E (.rangeFunc g ps assign body) Q st:=by
 refine AW.range lo1 lo ol q' (λs H=>H=S s) nx jm D s0 hg hen hro (λp hp=>by have:=List.all_eq_true.1 hps p hp;rwa [Nat.blt_eq]at this) hpl h01 hlo hit hPp hj hI0 hD (λl Y s k H _ hr hd hj hI=>?_) (λH2 hI h1 _=>hafter H2 _ rfl hI h1) hrk hkp hri;rw[hI]at hr⊢;refine(hround l Y s k hr hd hj).mono ?_;rintro e s1 ⟨h1,h2⟩;exact⟨h1,λZ _=>h2 Z⟩
theorem Weak.rng{lo ol:Nat}{τ : Nat->V}{H2 H3:Heap}{l:List (Nat×V)}(h:upd (Zia lo H2) ol .dead=H3)(hl:Ztg τ l):Weak E ⟨τ,H2⟩ ⟨Zfa emp l,H3⟩:=by
 refine Zqd (λ_=>false) (λt=>?_) (λo=>?_)
 rcases Zob (τ := emp) (f := τ) t l (Z1b hl)with h1|h1
 exact .inl h1;refine .inr ?_
 show Fz _ H2 (τ t) (Zfa emp l t)
 rw[h1];exact Fz.same _
 show FzO _ H2 o (H3 o)
 rw[<- h]
 by_cases e:o=ol
 subst e;rw[Z3];trivial;rw[Zi _ _ e]
 rcases Nat.lt_or_ge o lo with q|q
 rw[Zib q];trivial
 .rw[Zrc q]
  have:=FzO.same (F:=λ_=>false) (H:=H2) (o:=o) rfl
  cases hh:H2 o with
  |mp=>trivial
  |_=>rw[hh]at this;exact this
theorem ZoM{G:Nat->V}{f:FuncId}{fn:Func}{c:Code}{args:List V}{H:Heap}{K:V->Heap->Prop}(q:Nat)(n:Nat)(rs:List ResultVar)(hf:P.funcs[f]?=some fn)(h:∀ X,AW P ⟨X,H,n,q,G,none,[],.marks⟩ c (Zeg P rs K) ⟨Zve 0 args,H⟩)
  (hb:fn.body=some c:=by rfl) (hn:fn.ntmps=n:=by rfl) (hr:fn.results.toList=rs:=by rfl) (hn0:Nat.ble args.length n=true:=by rfl):Spec P G f args H K:=by
 subst hn hr
 exact λX _ _ hI hG hA=>(Znj (.inr rfl) (λ_=>rfl) q hf hb hn0 hI hG hA (h X)).mono λe w' ⟨c,v,H',Y,a1,a2,a3,a4⟩=>by
  rcases a1 with ⟨a1,a5⟩|⟨k,hk,_⟩
  exact⟨c,v,H',Y,a1,a2,a3,a4,a5⟩;cases hk
theorem Znv{κ : Type}(p : κ -> Bool):∀ xs:List κ,(Zla (fun(_:Bool) k=>((if p k=true then some Code.ret else none:Option Code).isNone,p k)) false xs).2=xs.any p
 |[]=>rfl
 |k::r=>by
  rw[List.any_cons,Zla];cases h:p k;simp only[Bool.false_eq_true,if_false,Option.isNone_none,if_true,Bool.false_or];exact Znv p r;rfl
theorem Zci{σ κ : Type}{D : σ -> κ -> Prop}{jm : σ -> Option Code}{nx : σ -> κ -> σ}:∀ {xs:List κ} {s : σ},jm s=none->(∀ k∈xs,∀ s,D s k)->Z0o (λs k=>D s k/\jm s=none) (λs k=>((jm (nx s k)).isNone,nx s k)) s xs
 |[],_,_,_=>trivial
 |k::r,s,hj,h=>⟨⟨h k zS s,hj⟩,λq=>Zci (zu q) λx hx=>h x (by simp[hx])⟩
@[go_sem] def stM(lo:Nat)(B:Heap)(l:List (Nat×V))(m:List (Nat×AObj)):AS:=⟨Zfa emp l,Zfa (Zia lo B) m⟩
theorem Zva{lo:Nat}{τ : Nat->V}{H B:Heap}{l:List (Nat×V)}{m:List (Nat×AObj)}(h:Ztg τ l)(hm:Ztg H m)(hB:Zia lo H=Zia lo B):Weak E ⟨τ,H⟩ (Hs.stM lo B l m):=by
 refine Zqd (λ_=>false) (λt=>?_) (λo=>?_)
 rcases Zob (τ := emp) (f := τ) t l (Z1b h)with h1|h1
 exact .inl h1;refine .inr ?_
 show Fz _ H (τ t) (Zfa emp l t)
 rw[h1];exact Fz.same _
 show FzO _ H o (Zfa (Zia lo B) m o)
 rcases Zob (τ := Zia lo B) (f:=H) o m (Z1b hm)with h1|h1
 rw[h1,<- hB]
 rcases Nat.lt_or_ge o lo with q|q
 rw[Zib q];trivial
 .rw[Zrc q]
  have:=FzO.same (F:=λ_=>false) (H:=H) (o:=o) rfl
  cases hh:H o with
  |mp=>trivial
  |_=>rw[hh]at this;exact this
 rw[h1];exact FzO.same rfl
end
end Go.Hs
