/- A part. No condition. -/
import Derived.Test.YtoahejkahaimnaaGreatDoorP26
import Derived.RangeFuncNested
set_option linter.all false
namespace Go.Hs
section
variable{P:Program}{E:Ent}
theorem Kw{ops:Array Oper}{Q:AS->Prop}{R:Exit->Act->World->Prop}{tail:List Nat}(y:∀ ch a w,Pan E ch a w->R (.panic ch) a w)(x:∀ s a w,Qx E s a w->Q s->wpOpsIn E.rk.F 0 P ops R tail a w)(hd:(ops.all (Xz E.n))=true):∀ (l:List Oper) (k:Nat) (s:AS) (a:Act) (w:World),Qx E s a w->(∀ j,j<l.length->l[j]?=ops[k+j]?)->Yi P E ops Q l s ->
  wpOpsIn E.rk.F 0 P ops R ((List.range l.length).map (k + ·)++tail) a w
 |[],k,s,a,w,hs,_,h=>by
  exact x s a w hs h
 |o::rest,k,s,a,w,⟨X,hX⟩,hl,h=>by
  have A:ops[k]?=some o:=by have:=hl 0 zS;simpa using this.symm
  have p:∀ j,j<rest.length->rest[j]?=ops[k+1+j]? := λj D=>by have:=hl (j+1) (by grind);rw[show k+1+j=k+(j+1) by omega];simpa using this
  have f:∀ (r:Oper) d,r∈ops->r.dst=some d->d<E.n:=by
   intro r d z e;rw[Array.all_eq_true']at hd;have:=hd r z;unfold Xz at this;rw[e]at this;simpa using this
  have q:o∈ops:=by grind
  have g:(List.range (o::rest).length).map (k + ·)++tail=k::((List.range rest.length).map (k+1 + ·)++tail):=by
   simp only[List.length_cons,List.range_succ_eq_map,List.map_cons,Nat.add_zero,List.map_map,List.cons_append]
   congr 2
   apply List.map_congr_left;simp;omega
  rw[g];simp only[wpOpsIn,A];simp only[Yi]at h
  cases m:Zz ops s.τ o with
  |none=>rw[m]at h;exact h.elim
  |some b=>
   have B:=Vn hX m f;rw[m]at h;rw[B]
   cases b with
   |true=>
    simp only[if_true]at h⊢;refine R3 _ (Kj h) (Oper.wp_mono ?_ (N8 hX (λd e=>f o d q e) h y));rintro H w' ⟨v,I,u,t⟩;exact Kw y x hd rest (k+1) _ _ _ t p u
   |false=>
    simp only[Bool.false_eq_true,if_false]at h⊢;refine⟨λ_ _=>trivial,?_⟩;refine Kw y x hd rest (k+1) _ _ _ ⟨X,?_⟩ p h;have:=hX.step (Goes.refl hX.go.inv) (dst:=o.dst) (c:=undef) (v:=.tuple []) (.tuple #[] [] rfl (λi G C=>by simp at C)) (λd e=>f o d q e);rw[hX.hw]at this;exact this
theorem Zmn{ops:Array Oper}{Q:AS->Prop}{R:Exit->Act->World->Prop}{s:AS}{a:Act}{w:World}{o:Oper}(l:∀ ch a w,Pan E ch a w->R (.panic ch) a w)(hd:(ops.all (Xz E.n))=true)(b:Nat.ble 1 ops.size=true)(g:ops[ops.size-1]?=some o)(i:o.guard=none)(d:∀ c,o.op ≠ .defer c)(f:Qx E s a w)
  (h:Yi P E ops Q ops.toList.dropLast s) (k:∀ s a w,Qx E s a w->Q s->o.wp P a w (R .normal) R):wpOpsIn E.rk.F 0 P ops R (List.range ops.size) a w:=by
 have b:=Nat.le_of_ble_eq_true b
 have:=Kw (P:=P) (E:=E) (R:=R) (tail:=[ops.size-1]) (Q:=Q) l (λs a w p m=>by
  simp only[wpOpsIn,g]
  have:Region.wanted o (yielded ops a.tmps)=true:=by simp[Region.wanted,i]
  rw[this]
  exact R3 _ d (Oper.wp_mono (λ_ _ h=>h) (k s a w p m))) hd ops.toList.dropLast 0 s a w f (λj q=>by
   grind) h
 have e:List.range ops.size=(List.range ops.toList.dropLast.length).map (0 + ·)++[ops.size-1]:=by
  simp only[List.length_dropLast,Array.length_toList,Nat.zero_add,List.map_id'];rw[<- List.range_succ]
  grind
 grind
def HandX(P:Program)(E:Ent)(ops:Array Oper)(R:Exit->Act->World->Prop)(o:Oper)(s:AS)(K:AS->Prop):Prop:=
 (Zz ops s.τ o=some true/\∀ X a,SatX E X s a X.w->o.wpIn E.rk.F 0 P a X.w (λb w'=>∃ s2,Qx E s2 b w'/\K s2) R)\/(Zz ops s.τ o=some false/\K (s.put o.dst (.tuple [])))
def My(P:Program)(E:Ent)(ops:Array Oper)(R:Exit->Act->World->Prop)(K:AS->Prop):List Nat->Nat->AS->Prop
 |[],k,s=>Yi P E ops K (ops.toList.drop k) s
 |n::r,k,s=>Yi P E ops (λa=>∃ o,ops[n]?=some o/\HandX P E ops R o a (My P E ops R K r (n+1))) ((ops.toList.drop k).take (n-k)) s
def F4(z:Nat):Nat->List Nat->Bool
 |_,[]=>true
 |k,n::r=>Nat.ble k n&&Nat.blt n z&&F4 z (n+1) r
theorem Ek{ops:Array Oper}{K:AS->Prop}{R:Exit->Act->World->Prop}(q:∀ ch a w,Pan E ch a w->R (.panic ch) a w)(A:∀ s a w,Qx E s a w->K s->R .normal a w)(hd:(ops.all (Xz E.n))=true):
  ∀ (ns:List Nat) (k:Nat) (s:AS) (a:Act) (w:World),F4 ops.size k ns=true->Qx E s a w->My P E ops R K ns k s->wpOpsIn E.rk.F 0 P ops R ((List.range (ops.size-k)).map (k + ·)) a w
 |[],k,s,a,w,_,hs,h=>by
  have:=Kx (P:=P) (R:=R) q A hd (ops.toList.drop k) k s a w hs (λj=>by grind) h;rwa [List.length_drop,Array.length_toList]at this
 |n::r,k,s,a,w,hb,hs,h=>by
  simp only[F4,Bool.and_eq_true,Nat.blt_eq]at hb;obtain⟨⟨B,D⟩,C⟩:=hb;have B:=Nat.le_of_ble_eq_true B
  have t:=Kw (P:=P) (E:=E) (R:=R) (tail:=n::(List.range (ops.size-(n+1))).map (n+1 + ·)) (ops:=ops) q
   (λT O S m I=>by
    obtain⟨o,x,l⟩:=I;obtain⟨X,g⟩:=m;have H:=g.hw;subst H;simp only[wpOpsIn,x]
    have b:∀ (p:Oper) d,p∈ops->p.dst=some d->d<E.n:=by
     intro p d J e;rw[Array.all_eq_true']at hd;have:=hd p J;unfold Xz at this;rw[e]at this;simpa using this
    rcases l with ⟨f,l⟩|⟨f,l⟩
    rw[Vn g f b];refine Oper.wpIn_mono ?_ (l X O g);rintro Q w' ⟨G,u,L⟩;exact Ek q A hd r (n+1) G Q w' C u L;rw[Vn g f b];refine⟨λ_ _=>trivial,Ek q A hd r (n+1) _ _ _ C ⟨X,?_⟩ l⟩
    have z:o∈ops:=by rw[Array.getElem?_eq_some_iff]at x;obtain⟨y,rfl⟩:=x;exact Array.getElem_mem y
    exact g.step (Goes.refl g.go.inv) (dst:=o.dst) (c:=undef) (v:=.tuple []) (.tuple #[] [] rfl (λi B D=>by simp at D)) (λd e=>b o d z e))
   hd ((ops.toList.drop k).take (n-k)) k s a w hs (λj M=>by
    rw[List.length_take]at M
    rw[List.getElem?_take_of_lt zo,List.getElem?_drop,Array.getElem?_toList]) h
  have N:(List.range (ops.size-k)).map (k + ·)=(List.range ((ops.toList.drop k).take (n-k)).length).map (k + ·)++n::(List.range (ops.size-(n+1))).map (n+1 + ·):=by
   rw[List.length_take,List.length_drop,Array.length_toList,Nat.min_eq_left zo];rw[show ops.size-k=(n-k)+((ops.size-(n+1))+1) by omega,List.range_add,List.range_succ_eq_map];simp only[List.map_append,List.map_cons,List.map_map,Nat.add_zero]
   congr 2
   omega;apply List.map_congr_left;intro j _;simp only[Function.comp];omega
  rw[N];exact t
theorem Ru{ops:Array Oper}{K K':AS->Prop}(c:∀ s,K s->K' s):∀ {l:List Oper} {s:AS},Yi P E ops K l s->Yi P E ops K' l s
 |[],s,h=>c s h
 |o::r,s,h=>by
  simp only[Yi]at h⊢
  cases a:Zz ops s.τ o with
  |none=>grind
  |some b=>
   rw[a]at h
   cases b with
   |true=>exact Y3 (λ_ _ h=>Ru c h) h
   |false=>exact Ru c h
theorem Wm{id:Nat}{ops:Array Oper}{Q:Exit->AS->Prop}{s:AS}(c:List Nat)(hd:(ops.all (Xz E.n))=true)(d:F4 ops.size 0 c=true)(h:My P E ops (Post E Q) (Q .normal) c 0 s):AW P E (.region id ops false) Q s:=by
 intro a w b;refine wpIn_region ?_;have:=Ek (P:=P) (R:=Post E Q) (λg a w h=>.inr ⟨g,rfl,h⟩) (λs a w f e=>.inl ⟨s,f,e⟩) hd c 0 s a w d b h;simp_all
theorem Zjs{id:Nat}{ops:Array Oper}{Q:Exit->AS->Prop}{s:AS}(n:Nat){o:Oper}(hd:(ops.all (Xz E.n))=true)(b:ops[n]?=some o)(c:o.guard=none)
  (h:Yi P E ops (λs1=>∀ X a,SatX E X s1 a X.w->o.wpIn E.rk.F 0 P a X.w (λa' w'=>∃ s2,Qx E s2 a' w'/\Yi P E ops (Q .normal) (ops.toList.drop (n+1)) s2) (Post E Q)) (ops.toList.take n) s):AW P E (.region id ops false) Q s:=by
 have e:n<ops.size:=by grind
 refine Wm [n] hd (by simp only[F4,Bool.and_true,Bool.and_eq_true,Nat.blt_eq];simp_all) ?_
 show Yi P E ops _ ((ops.toList.drop 0).take (n-0)) s
 refine Ru (λs1 d=>⟨o,b,.inl ⟨by simp[Zz,c],d⟩⟩) h
def GivesE(P:Program)(E:Ent)(o:Oper)(s:AS)(v:V)(H':Heap):Prop:=
 ∀ X a w,SatX E X s a w->∃ c Y,(execOp a.eval o).run P X.w=.ok (.value c) Y.w/\Goes X s.H Y H'/\Rel Y c v
theorem GivesE.hand{ops:Array Oper}{R:Exit->Act->World->Prop}{o:Oper}{s:AS}{v:V}{H':Heap}{K:AS->Prop}{X:Cx}{a:Act}(h:GivesE P E o s v H')(e:∀ c,o.op ≠ .defer c)(hd:(ops.all (Xz E.n))=true){n:Nat}(m:ops[n]?=some o)(j:SatX E X s a X.w)(l:K (AS.put { s with H:=H' } o.dst v)):
  o.wpIn E.rk.F 0 P a X.w (λa' w'=>∃ s2,Qx E s2 a' w'/\K s2) R:=by
 refine R3 _ e ?_;obtain⟨c,Y,b,g,k⟩:=h X a _ j;unfold Oper.wp;rw[b];refine⟨_,⟨Y,j.step g k λd i=>?_⟩,l⟩
 have f:o∈ops:=by grind
 rw[Array.all_eq_true']at hd;have:=hd o f;unfold Xz at this
 grind
theorem L8{id:Nat}{ops:Array Oper}{Q:Exit->AS->Prop}{s:AS}(n:Nat){o:Oper}(hd:(ops.all (Xz E.n))=true)(b:ops[n]?=some o)(d:o.guard=none)
  (h:Yi P E ops (λs1=>∃ v H',GivesE P E o s1 v H'/\Yi P E ops (Q .normal) (ops.toList.drop (n+1)) (AS.put { s1 with H:=H' } o.dst v)) (ops.toList.take n) s) (a:∀ c,o.op ≠ .defer c:=by exact λ_ h=>nomatch h):AW P E (.region id ops false) Q s:=
 Zjs n hd b d (Ru (λ_ ⟨_,_,g,f⟩ _ _ e=>g.hand (K:=Yi P E ops (Q .normal) (ops.toList.drop (n+1))) a hd b e f) h)
def Gives(P:Program)(E:Ent)(o:Oper)(s:AS)(v:V):Prop:=∀ X a w,SatX E X s a w->∃ c,(execOp a.eval o).run P X.w=.ok (.value c) X.w/\Rel X c v
theorem Gives.e{o:Oper}{s:AS}{v:V}(h:Gives P E o s v):GivesE P E o s v s.H:=λX a w b=>let ⟨c,h1,h2⟩:=h X a w b;⟨c,X,h1,Goes.refl b.go.inv,h2⟩
theorem S9{id:Nat}{ops:Array Oper}{Q:Exit->AS->Prop}{s:AS}(n:Nat){o:Oper}(hd:(ops.all (Xz E.n))=true)(b:ops[n]?=some o)(d:o.guard=none)
  (h:Yi P E ops (λs1=>∃ v,Gives P E o s1 v/\Yi P E ops (Q .normal) (ops.toList.drop (n+1)) (AS.put s1 o.dst v)) (ops.toList.take n) s) (a:∀ c,o.op ≠ .defer c:=by exact λ_ h=>nomatch h):AW P E (.region id ops false) Q s:=
 L8 n hd b d (Ru (λs1 ⟨v,g,f⟩=>⟨v,s1.H,g.e,f⟩) h) a
end
section
variable{P:Program}{E:Ent}
def Z7(lo:Nat)(H:Heap):Heap:=λo=>if lo<=o then(H o).noMp else .dead
theorem W8{lo o:Nat}{H:Heap}(h:lo<=o):Z7 lo H o=(H o).noMp:=if_pos h
theorem X5{lo o:Nat}{H:Heap}(h:o<lo):Z7 lo H o=.dead:=if_neg zo
theorem Pb(x:AObj):x.noMp.noMp=x.noMp:=by cases x<;>rfl
theorem Ob{lo:Nat}{H H':Heap}(h:∀ o,lo<=o->(H o).noMp=(H' o).noMp):Z7 lo H=Z7 lo H':=by
 funext o
 rcases Nat.lt_or_ge o lo with q|q
 rw[X5 q,X5 q];rw[W8 q,W8 q,h o q]
@[go_sem] theorem Ng(lo o:Nat)(H:Heap)(x:AObj):Z7 lo (Z3 H o x)=if lo<=o then Z3 (Z7 lo H) o x.noMp else Z7 lo H:=by
 funext o'
 split
 rename_i h
 by_cases e:o'=o
 subst e;rw[W8 h,Ye,Ye];rw[Zk _ _ e]
 rcases Nat.lt_or_ge o' lo with q|q
 rw[X5 q,X5 q];rw[W8 q,W8 q,Zk _ _ e]
 rcases Nat.lt_or_ge o' lo with q|q
 rw[X5 q,X5 q];rw[W8 q,W8 q,Zk _ _ zo]
theorem Pd{a lo:Nat}(H:Heap)(h:a<=lo):Z7 lo (Z7 a H)=Z7 lo H:=Ob λo q=>by rw[W8 (Nat.le_trans h q),Pb]
@[go_sem] theorem Iv(lo:Nat)(H:Heap):Z7 lo (Z7 lo H)=Z7 lo H:=Pd H (Nat.le_refl _)
@[go_sem] theorem mask_none(lo:Nat):Z7 lo Zi=Zi:=by funext o;unfold Z7;split<;>rfl
def upM(lo:Nat)(H:Heap):Heap:=λo=>if lo<=o then(H o).noMp else H o
theorem Zps{X:Cx}{H:Heap}(a:Inv X H)(lo:Nat):Goes X H X (upM lo H):=Goes.sub a λo=>by
 unfold upM
 split
 cases h:H o<;>first|exact .inr rfl|exact .inl rfl
 grind
theorem E1{X:Cx}{H:Heap}(a:Inv X H)(lo:Nat):Goes X H X (Z7 lo H):=Goes.sub a λo=>by
 unfold Z7
 split
 cases h:H o<;>first|exact .inr rfl|exact .inl rfl
 grind
def low(lo:Nat)(H H':Heap):Heap:=λo=>if lo<=o then(H' o).noMp else H o
theorem Pe{X Y:Cx}{lo:Nat}{H H':Heap}(b:Inv X H)(a:Goes X (Z7 lo H) Y H'):Goes X H Y (low lo H H'):=by
 have e:Z7 lo H=only (Nat.ble lo) (upM lo H):=by
  funext o
  unfold Z7 only upM;simp_all
 rw[e]at a;refine(Zps b lo).trans (a.frame (Zps b lo).inv _ λo=>?_);unfold low
 split
 simp;rename_i h;exact .inr (.inr ⟨by rw[Bool.eq_false_iff,ne_eq,Nat.ble_eq];exact h,(if_neg h).symm⟩)
theorem Zl1(lo:Nat)(H H':Heap):Z7 lo (low lo H H')=Z7 lo H':=Ob λo q=>by rw[low,if_pos q,Pb]
def CallT(P:Program)(t:Fn)(cargs:Array Value)(w:World)(R:Ending->World->Prop):Prop:=match t with
 |.func f=>Z5 P f=true/\Calls P f cargs w R
 |.yield l=>YieldAt Fence.wide 0 P l cargs w R
 |_=>False
theorem CallT.mono{t:Fn}{a:Array Value}{w:World}{R g:Ending->World->Prop}(h:CallT P t a w R)(d:∀ e w,R e w->g e w):CallT P t a w g:=by
 cases t with
 |func f=>exact⟨h.1,h.2.mono d⟩
 |yield l=>
  obtain⟨k,c,b,body,i,j⟩:=h;exact⟨k,c,b,body,i,j.mono d⟩
 |_=>exact h.elim
structure Yd(P:Program)(G:Nat->V)(X:Cx)(lo:Nat){σ κ : Type}(t:Fn)(caps:List V)(enc : κ -> List V)(R : σ -> Heap->Prop)(dom : σ -> κ -> Prop)(nx : σ -> κ -> Bool × σ):Prop where
 cap:∀ l,t=.yield l->caps=[]
 sp:∀ s k Y H cargs,dom s k->X.le Y->Inv Y (Z7 lo H)->R s (Z7 lo H)->(∀ g,RelG Y g (G g))->RelA Y cargs (enc k++caps) ->
  CallT P t cargs Y.w (λe w'=>∃ Z H',e=.returned (.bool (nx s k).1)/\Z.w=w'/\Goes Y (Z7 lo H) Z H'/\R (nx s k).2 (Z7 lo H'))
theorem Yd.at{G:Nat->V}{X f:Cx}{lo:Nat}{σ κ : Type}{t:Fn}{a:List V}{enc : κ -> List V}{R : σ -> Heap->Prop}{c : σ -> κ -> Prop}{e : σ -> κ -> Bool × σ}(h:Yd P G X lo t a enc R c e)(d:X.le f):Yd P G f lo t a enc R c e:=
 ⟨h.cap,λs k Y H b i g=>h.sp s k Y H b i (d.trans g)⟩
def Yl{σ κ : Type}(nx : σ -> κ -> Bool × σ) : σ -> List κ -> Bool × σ
 |s,[]=>(true,s)
 |s,k::r=>if(nx s k).1 then Yl nx (nx s k).2 r else(false,(nx s k).2)
def R9{σ κ : Type}(dom : σ -> κ -> Prop)(nx : σ -> κ -> Bool × σ) : σ -> List κ -> Prop
 |_,[]=>True
 |s,k::r=>dom s k/\((nx s k).1=true->R9 dom nx (nx s k).2 r)
theorem B2{ops:Array Oper}{R:Exit->Act->World->Prop}{st:AS}{K:AS->Prop}{X:Cx}{a:Act}{dst:Option Nat}{f:Operand}{args:Array Operand}{ats:Array TypeId}{ty:TypeId}{pos:String}{af:Array Edge}{gd:Option (Nat×Bool)}{t:Fn}{caps:List V}(hX:SatX E X st a X.w)
  (hd:(ops.all (Xz E.n))=true) {n:Nat} (ho:ops[n]?=some ⟨dst,.call ⟨.value f,args,ats⟩,ty,pos,af,gd⟩) (hf:st.ev E f=.func t [] caps) (hcap:∀ l,t=.yield l->caps=[])
  (h:∀ cargs,RelA X cargs (args.toList.map (st.ev E)++caps)->CallT P t cargs X.w (λe w'=>∃ c v Y H',e=.returned c/\Y.w=w'/\Goes X st.H Y H'/\Rel Y c v/\K (AS.put { st with H:=H' } dst v))):
  (⟨dst,.call ⟨.value f,args,ats⟩,ty,pos,af,gd⟩:Oper).wpIn E.rk.F 0 P a X.w (λa' w'=>∃ s2,Qx E s2 a' w'/\K s2) R:=by
 refine⟨λ_ _=>trivial,?_⟩;rw[Oper.semAt_eq _ _ _ (λ_ h=>by cases h)];have hfv:=hX.ev f;rw[hf]at hfv;generalize hq:a.eval f=q at hfv
 cases hfv with
 |func _ xs ys _ _ hx hy hxr hyr=>
  have hx0:xs = #[]:=by
   have:xs.size=0:=hx;exact Array.eq_empty_of_size_eq_zero this
  subst hx0
  have hA:RelA X (args.map a.eval++ys) (args.toList.map (st.ev E)++caps):=by
   refine⟨by simp[hy],λi h1 h2=>?_⟩
   by_cases hi:i<args.size
   rw[Array.getElem_append_left (zu hi),List.getElem_append_left (zu hi)];simp only[Array.getElem_map,List.getElem_map,Array.getElem_toList];exact hX.ev _;rw[Array.getElem_append_right zO,List.getElem_append_right zO];simp only[Array.size_map,List.length_map,Array.length_toList];exact hyr _ _ _
  have hk:=h _ hA
  have hdm:∀ d,dst=some d->d<E.n:=by
   intro d hdst;rw[Array.all_eq_true']at hd;obtain⟨hlt,e⟩:=Array.getElem?_eq_some_iff.1 ho;have:=hd _ (Array.getElem_mem hlt);rw[e]at this;simp only[Xz,hdst]at this;simpa using this
  have fin:∀ (e:Ending) (w':World),(∃ c v Y H',e=.returned c/\Y.w=w'/\Goes X st.H Y H'/\Rel Y c v/\K (AS.put { st with H:=H' } dst v)) ->
    (match e,w' with
    |.returned v,w''=>∃ s2,Qx E s2 (a.put dst v) w''/\K s2
    |.panicked chain,w''=>R (.panic chain) a w''
    |.outgrown,_=>LetsOut R):=by
   rintro e w' ⟨c,v,Y,H',rfl,rfl,hg,hr,hK⟩;exact⟨_,⟨Y,hX.step hg hr hdm⟩,hK⟩
  cases t with
  |func fid=>
   obtain⟨hen,hk⟩:=hk
   have hrun:(execOp a.eval ⟨dst,.call ⟨.value f,args,ats⟩,ty,pos,af,gd⟩).run P X.w=.ok (.enter fid (args.map a.eval++ys)) X.w:=by
    unfold Z5 at hen
    split at hen
    rename_i fn hfn;simp only[Bool.and_eq_true]at hen;obtain⟨hn1,hn2⟩:=hen
    have hn1':(fn.name == "runtime.NumGoroutine")=false:=zu hn1
    have hn2':fn.body.isNone=false:=by cases hb:fn.body<;>simp_all
    simp only[execOp,resolve,hq,Deferred.ofValue,Sem.run_bind,Sem.run_pure,Result.andThen_ok,invoke,callFunc,run_program,hfn,hn1',hn2'];simp;simp at hen
   rw[hrun,Oper.uponIn_enter];exact⟨λh=>(by cases h),(E.rk.calls).2 (hk.mono fin)⟩
  |yield l=>
   obtain⟨fn,tmps,assign,body,hy2,hR⟩:=hk;obtain rfl:=hcap l rfl;have hy0:ys = #[]:=Array.eq_empty_of_size_eq_zero hy;subst hy0
   have hrun:(execOp a.eval ⟨dst,.call ⟨.value f,args,ats⟩,ty,pos,af,gd⟩).run P X.w=.ok (.round l fn tmps assign body) X.w:=by
    rw[Array.append_empty]at hy2;simp only[execOp,resolve,hq,Deferred.ofValue,Sem.run_bind,Sem.run_pure,Result.andThen_ok,invoke,Array.empty_append,hy2]
   rw[hrun,Oper.uponIn_round];exact⟨λh=>(by cases h),hR.mono fin⟩
  |_=>exact hk.elim
theorem Zzy{X:Cx}(o:Obj):X.le { X with w:=X.w.alloc o }:=
 ⟨λ_ _ _ h=>h,λ_ _ h=>h,λb i x _ d=>(World.cell?_alloc_lt X.w o ⟨b,i,none⟩ (World.block_lt_of_cell? _ _ d)).trans d,rfl,
  λb c t a=>⟨c,(RowKit.Below.heap_alloc _ _ _ (Array.getElem?_eq_some_iff.1 a).1).trans a,rfl⟩,λb e n _ a=>(RowKit.Below.heap_alloc _ _ _ (Array.getElem?_eq_some_iff.1 a).1).trans a⟩
theorem Ch{X:Cx}{H:Heap}(a:Inv X H)(o:Obj):Goes X H { X with w:=X.w.alloc o } H:=by
 have d:=Zzy (X:=X) o;have f:Keep (LiveB X H) X.w (X.w.alloc o):=⟨rfl,rfl,rfl,zS,λk p _=>RowKit.Below.heap_alloc _ _ _ p⟩;refine⟨⟨?_,a.inj,λb i e=>⟨Nat.lt_of_lt_of_le (a.safe b i e).1 zS,(a.safe b i e).2⟩,a.fin,Nat.le_trans a.bw zS,a.thaw_le d λ_ _ e=>e,a.mps_tr d (λ_ _ _ _ _ h=>h) f λ_ _ e=>.inl e,a.lps_tr (λ_ _ _ h=>h) λb r j=>RowKit.Below.heap_alloc _ _ _ (Array.getElem?_eq_some_iff.1 j).1⟩,d,f,λ_ _ e=>.inl e,λ_ j=>.inr j⟩;intro n c g z A l;obtain⟨b,y,m,v,x,t,u,s,q⟩:=a.obj _ _ _ _ _ l;exact⟨b,y,m,v,x,t,(RowKit.Below.heap_alloc _ _ _ (a.lt l m)).trans u,s,q.mono d⟩
theorem Goes.newLp{X0 X:Cx}{H0 H:Heap}(h:Goes X0 H0 X H){l d:Nat}{r:Loop}(K:X.w.heap[l]?=some (.loop r))(y:X0.w.heap.size<=l\/LiveB X0 H0 l)(s:∀ o r,o≠d->H o=.lp l r->False):Goes X0 H0 X (Z3 H d (.lp l r)):=by
 have f:=h.inv
 have t:∀ o c g j k,Z3 H d (.lp l r) o=.cells c g j k->H o=.cells c g j k:=λo c g j k a=>by
  by_cases e:o=d
  simp_all;rwa [Zk _ _ e]at a
 have x:∀ o b m,Z3 H d (.lp l r) o=.lp b m->(o=d/\b=l/\m=r)\/(o≠d/\H o=.lp b m):=λo b m a=>by
  by_cases e:o=d
  simp_all;rw[Zk _ _ e]at a;grind
 refine⟨⟨λo c g j k a=>f.obj _ _ _ _ _ (t _ _ _ _ _ a),λE R N P I D Q M O G b B A p u=>f.inj E R N P I D Q M O G b B A (t _ _ _ _ _ p) (t _ _ _ _ _ u),
  λb i v=>⟨(f.safe b i v).1,λo c g j k z a=>(f.safe b i v).2 o c g j k z (t _ _ _ _ _ a)⟩,f.fin,f.bw,f.thaw,f.mps_tr (.refl X) (λo T b U S a=>?_) (Keep.refl _ _) (λ_ _ v=>.inl v),?_⟩,h.le,h.kp,h.Sn,Ub (λo b m a=>?_) λb ⟨o,c,g,j,k,z,a,J⟩=>h.on b (.inl ⟨o,c,g,j,k,z,t _ _ _ _ _ a,J⟩)⟩
 by_cases e:o=d
 simp_all;rwa [Zk _ _ e]at a;intro o b m a
 rcases x _ _ _ a with ⟨rfl,rfl,rfl⟩|⟨e,p⟩
 refine⟨K,λF C n=>?_⟩
 rcases x _ _ _ n with ⟨q,_⟩|⟨q,u⟩
 exact q;exact(s _ _ q u).elim;obtain⟨u,L⟩:=f.lps _ _ _ p;refine⟨u,λF C n=>?_⟩
 rcases x _ _ _ n with ⟨_,rfl,_⟩|⟨_,q⟩
 exact(s _ _ e p).elim;exact L _ _ q
 rcases x _ _ _ a with ⟨_,rfl,_⟩|⟨_,p⟩
 exact y;exact h.on b (.inr ⟨o,m,p⟩)
theorem Hf{X Y:Cx}{H H':Heap}(I:Inv X H)(h:Goes X H Y H'){b:Nat}{o o':Obj}(B:X.w.heap[b]?=some o)(C:Uz o=true)(l:Uz o'=true)(D:¬ LiveB X H b):
  Goes { X with w:=X.w.putObj b o' } H { Y with w:=Y.w.putObj b o' } H':=by
 have d:=(Array.getElem?_eq_some_iff.1 B).1;have A:Y.w.heap[b]?=some o:=(h.kp.block b d D).trans B
 have y:∀ n r,H' n=.lp b r->False:=λn r v=>by
  rcases h.on b (.inr ⟨n,r,v⟩)with q|q
  omega
  grind
 have E:=Goes.turn (X0:={ Y with w:={ Y.w with heap := #[] } }) (H0:=H') (X:=Y) (H:=H') (H':=H') (o':=o') ⟨h.inv,⟨λ_ _ _ h=>h,λ_ _ h=>h,λ_ _ _ _ g=>by simp[Cx.cell,World.cell?]at g,rfl,λ_ _ _ g=>by grind,λ_ _ _ _ g=>by grind⟩,⟨rfl,rfl,rfl,zS,λk f _=>by grind⟩,λ_ _ j=>.inl j,λ_ _=>.inl zS⟩ A C l (.inl zS) (λ_=>.inl rfl) (λn r v=>(y n r v).elim)
 have u:∀ {k:Nat} {o1:Obj},Uz o1=false->(X.w.putObj b o').heap[k]?=some o1->k≠b:=λs p e=>by
  subst e;rw[World.putObj_heap_same d]at p;cases p;rw[l]at s;cases s
 have m:∀ {k i:Nat} {x:Value},(X.w.putObj b o').cell? ⟨k,i,none⟩=some x->k≠b:=λg e=>by
  subst e;unfold World.cell? at g;rw[World.putObj_heap_same d]at g
  cases o'<;>simp[Uz]at l g
 refine⟨E.inv,⟨h.le.β,h.le.S,λk i x j g=>?_,h.le.base,λk c t f=>?_,λk F n j f=>?_⟩,⟨h.kp.os,h.kp.tape,h.kp.output,by simp only[World.putObj_size];exact h.kp.size,λk f z=>?_⟩,λk i j=>by simp only[World.putObj_size];exact h.Sn k i j,λk f=>by simp only[World.putObj_size];exact h.on k f⟩;have e:=m g
 have s:X.cell k i=some x:=by
  show X.w.cell? _=_
  rw[<- World.cell?_of_block (w:=X.w) (a:=⟨k,i,none⟩) (World.putObj_heap_other (o:=o') e)];exact g
 have p:=h.le.cell k i x j s
 show(Y.w.putObj b o').cell? _=_
 rw[World.cell?_of_block (w:=Y.w) (a:=⟨k,i,none⟩) (World.putObj_heap_other e)];exact p;have e:=u rfl f;obtain⟨G,s,p⟩:=h.le.blk k c t ((World.putObj_heap_other e).symm.trans f);exact⟨G,(World.putObj_heap_other e).trans s,p⟩;have e:=u rfl f;exact(World.putObj_heap_other e).trans (h.le.map k F n j ((World.putObj_heap_other e).symm.trans f));simp only[World.putObj_size]at f
 by_cases e:k=b
 subst e;rw[World.putObj_heap_same d,World.putObj_heap_same (Nat.lt_of_lt_of_le d h.kp.size)];exact(World.putObj_heap_other e).trans ((h.kp.block k f z).trans (World.putObj_heap_other e).symm)
def Zjf:List Nat->List V->(Nat->V)->Nat->V
 |p::ps,v::vs,τ => Zjf ps vs (Z3 τ p v)
 |_,_,τ => τ
theorem Zif{X:Cx}:∀ (ps:List Nat) (cs:List Value) (vs:List V) (tmps:Array Value) (τ : Nat->V),cs.length=ps.length->vs.length=ps.length->(∀ p∈ps,p<tmps.size)->(∀ i (h1:i<cs.length) (h2:i<vs.length),Rel X cs[i] vs[i])->(∀ t,Rel X (tmps.getD t undef) (τ t)) ->
  (((ps.zip cs).foldl (fun(tmps:Array Value) p=>tmps.setIfInBounds p.1 p.2) tmps).size=tmps.size/\∀ t,Rel X (((ps.zip cs).foldl (fun(tmps:Array Value) p=>tmps.setIfInBounds p.1 p.2) tmps).getD t undef) (Zjf ps vs τ t))
 |[],_,_,_,_,_,_,_,_,ht=>⟨rfl,ht⟩
 |p::ps,[],_,_,_,h1,_,_,_,_=>by grind
 |p::ps,_::_,[],_,_,_,h2,_,_,_=>by grind
 |p::ps,c::cs,v::vs,tmps,τ,h1,h2,hp,hr,ht=>by
  have:=Zif ps cs vs (tmps.setIfInBounds p c) (Z3 τ p v) (by grind) (by grind) (λx d=>by grind) (λi b a=>hr (i+1) (by grind) (by grind)) (λt=>?_);simp only[List.zip_cons_cons,List.foldl_cons];exact⟨by grind,this.2⟩
  by_cases e:t=p
  subst e;have:t<tmps.size:=hp t zS;simp[this];exact hr 0 zS zS;rw[Zk _ _ e]
  have:(tmps.setIfInBounds p c).getD t undef=tmps.getD t undef:=by
   simp[Array.getElem?_setIfInBounds_ne (Ne.symm e)]
  rw[this];exact ht t
def YfSp(P:Program)(G:Nat->V)(lo:Nat)(f:FuncId)(A:V->List V)(H:Heap){κ : Type}(enc : κ -> List V)(xs:List κ)(res:Bool->V)(Pp:Heap->Prop:=λ_=>True):Prop:=
 ∀ (X:Cx) (t:Fn) (cl:List V) (σ : Type) (R : σ -> Heap->Prop) (dom : σ -> κ -> Prop) (nx : σ -> κ -> Bool × σ) (s0 : σ),Yd P G X lo t cl enc R dom nx->R9 dom nx s0 xs->R s0 (Z7 lo H)->(∀ s H,R s (Z7 lo H)->Pp (Z7 lo H))->Inv X H->(∀ g,RelG X g (G g))->∀ cargs,RelA X cargs (A (.func t [] cl)) ->
  Calls P f cargs X.w (λe w'=>∃ c Y H',e=.returned c/\Rel Y c (res (Yl nx s0 xs).1)/\Y.w=w'/\Goes X H Y H'/\R (Yl nx s0 xs).2 (Z7 lo H'))
def Z5l(P:Program)(G:Nat->V)(lo:Nat)(f:FuncId)(caps:List V)(H:Heap){κ : Type}(enc : κ -> List V)(xs:List κ)(Pp:Heap->Prop:=λ_=>True):Prop:=YfSp P G lo f (λy=>y::caps) H enc xs (λ_=>.top) Pp
theorem Vc(k:RK){G:Nat->V}{lo:Nat}{f:FuncId}{A:V->List V}{H:Heap}{κ : Type}{enc : κ -> List V}{xs:List κ}{a:Bool->V}{o:Heap->Prop}{d:Func}{c:Code}(q n m:Nat)(j:List ResultVar)(x:P.funcs[f]?=some d)
  (h:∀ (X:Cx) (t:Fn) (cl:List V) (σ : Type) (R : σ -> Heap->Prop) (dom : σ -> κ -> Prop) (nx : σ -> κ -> Bool × σ) (s0 : σ),Yd P G X lo t cl enc R dom nx->R9 dom nx s0 xs->R s0 (Z7 lo H)->(∀ s H,R s (Z7 lo H)->o (Z7 lo H)) ->
   AW P ⟨X,H,n,q,G,none,[],k⟩ c (Tr P j (λv H'=>(v=a (Yl nx s0 xs).1\/a (Yl nx s0 xs).1=.top)/\R (Yl nx s0 xs).2 (Z7 lo H'))) ⟨Ud 0 (A (.func t [] cl)),H⟩)
  (z:d.body=some c:=by rfl) (w:d.ntmps=n:=by rfl) (r:d.results.toList=j:=by rfl) (K:∀ v,(A v).length=m:=by exact λ_=>rfl) (u:Nat.ble m n=true:=by rfl) (l:k=.plain\/k=.marks:=by first|exact .inl rfl|exact .inr rfl):YfSp P G lo f A H enc xs a o:=by
 subst w r;intro X t cl σ R dom nx s0 p y B C D E i g;refine(O5 l (λ_=>rfl) q x z (by grind) D E g (h X t cl σ R dom nx s0 p y B C)).mono ?_;rintro e w' ⟨c,v,H',Y,⟨rfl,b,F⟩|⟨k,l,_⟩,J,I,L⟩;refine⟨c,Y,H',rfl,?_,J,I,F⟩
 rcases b with b|b
 grind
 rw[b];exact .top _
 grind
theorem S8{ops:Array Oper}{x:Exit->Act->World->Prop}{st:AS}{K:AS->Prop}{dst:Option Nat}{f:Operand}{args:Array Operand}{c:Array TypeId}{ty:TypeId}{pos:String}{af:Array Edge}{gd:Option (Nat×Bool)}{t:Fn}{cl:List V}
  {lo:Nat} {σ κ : Type} {enc : κ -> List V} {R : σ -> Heap->Prop} {g : σ -> κ -> Prop} {h : σ -> κ -> Bool × σ} (l:Yd P E.G E.X0 lo t cl enc R g h) (s : σ) (k : κ) (u:st.ev E f=.func t [] cl) (ha:args.toList.map (st.ev E)=enc k) (i:g s k) (v:R s (Z7 lo st.H))
  (w:∀ H2,R (h s k).2 (Z7 lo H2)->(∀ o,o<lo->H2 o=st.H o)->K (AS.put ⟨st.τ,H2⟩ dst (.bool (h s k).1))) (hd:(ops.all (Xz E.n))=true) {n:Nat} (m:ops[n]?=some ⟨dst,.call ⟨.value f,args,c⟩,ty,pos,af,gd⟩) (q:Zz ops st.τ ⟨dst,.call ⟨.value f,args,c⟩,ty,pos,af,gd⟩=some true):
  HandX P E ops x ⟨dst,.call ⟨.value f,args,c⟩,ty,pos,af,gd⟩ st K:=by
 refine .inl ⟨q,λX a d=>B2 d hd m u l.cap λb p=>?_⟩;rw[ha]at p;refine(l.sp s k X st.H b i d.go.le (E1 d.go.inv _).inv v d.gl p).mono ?_;rintro e w' ⟨Z,y,rfl,rfl,r,j⟩;exact⟨_,_,Z,_,rfl,rfl,Pe d.go.inv r,.bool _,w _ (by rw[Zl1];exact j) λo m=>if_neg zo⟩
theorem Jv{ops:Array Oper}{Q:Exit->Act->World->Prop}{st:AS}{K:AS->Prop}{dst:Option Nat}{f:Operand}{args:Array Operand}{j:Array TypeId}{ty:TypeId}{pos:String}{af:Array Edge}{gd:Option (Nat×Bool)}{d:FuncId}{z:List V}{t:Fn}{cl:List V}{A:V->List V}{l:Bool->V}
  {lo:Nat} {σ κ : Type} {enc : κ -> List V} {xs:List κ} {R : σ -> Heap->Prop} {g : σ -> κ -> Prop} {m : σ -> κ -> Bool × σ} {B:Heap->Prop} (b:Nat) (r:b<=lo) (u:YfSp P E.G lo d A (Z7 b st.H) enc xs l B) (v:Z5 P d=true) (D:∀ X,E.X0.le X->Yd P E.G X lo t cl enc R g m) (k : σ) (L:st.ev E f=.func (.func d) [] z)
  (ha:args.toList.map (st.ev E)++z=A (.func t [] cl)) (w:R9 g m k xs) (T:R k (Z7 lo st.H))
  (O:∀ H2,R (Yl m k xs).2 (Z7 lo H2)->(∀ o,o<b->H2 o=st.H o)->K (AS.put ⟨st.τ,H2⟩ dst (l (Yl m k xs).1))) (hd:(ops.all (Xz E.n))=true) {n:Nat} (x:ops[n]?=some ⟨dst,.call ⟨.value f,args,j⟩,ty,pos,af,gd⟩) (F:Zz ops st.τ ⟨dst,.call ⟨.value f,args,j⟩,ty,pos,af,gd⟩=some true) (N:∀ s H,R s (Z7 lo H)->B (Z7 lo H)):
  HandX P E ops Q ⟨dst,.call ⟨.value f,args,j⟩,ty,pos,af,gd⟩ st K:=by
 refine .inl ⟨F,λX a p=>B2 p hd x L (λ_ h=>by cases h) λi y=>⟨v,?_⟩⟩;rw[ha]at y;have S:Z7 lo (Z7 b st.H)=Z7 lo st.H:=Pd _ r;refine(u X t cl σ R g m k (D X p.go.le) w (by grind) N (E1 p.go.inv _).inv p.gl i y).mono ?_;rintro e w' ⟨c,Z,C,rfl,I,rfl,J,M⟩;refine⟨_,_,Z,_,rfl,rfl,Pe p.go.inv J,I,O _ ?_ λo x=>if_neg zo⟩
 have:Z7 lo (low b st.H C)=Z7 lo C:=Ob λo q=>by rw[low,if_pos (Nat.le_trans r q),Pb]
 grind
def Bc(X:Cx)(H:Heap)(l:Nat):Prop:=(∃ r,X.w.heap[l]?=some (.loop r))/\¬ LiveB X H l
def F3{σ κ : Type}(I : σ -> Heap->Prop)(nx : σ -> κ -> σ)(jm : σ -> Option Code)(lo ol:Nat)(s : σ)(k : κ):Exit->AS->Prop
 |.normal,s'=>jm (nx s k)=none/\I (nx s k) (Z3 (Z7 lo s'.H) ol .dead)
 |.ret,s'=>jm (nx s k)=some .ret/\I (nx s k) (Z3 (Z7 lo s'.H) ol .dead)
 |.exit id,s'=>jm (nx s k)=some (.exit id)/\I (nx s k) (Z3 (Z7 lo s'.H) ol .dead)
 |_,_=>False
theorem Za0{st:AS}{a:Act}{X X1:Cx}{ps:Array Tmp}{assign body:Code}{σ κ : Type}{enc : κ -> List V}(lo j q' l dn:Nat)(fn:FuncId)(I : σ -> Heap->Prop)(B : σ -> κ -> σ)(z : σ -> Option Code)(D : σ -> κ -> Prop)(hlo:lo<=j)
  (hX:SatX E X st a X.w) (hle:X.le X1) (hps:∀ p∈ps.toList,p<E.n) (hpl:∀ k,(enc k).length=ps.size)
  (J:∀ Y s k H,E.X0.le Y->Bc Y (Z3 (Z7 lo H) j .dead) l->D s k->z s=none->I s (Z3 (Z7 lo H) j .dead) ->
   AW P ⟨Y,Z3 (Z7 lo H) j .dead,E.n,q',E.G,none,[],.round l⟩ assign (λe s1=>e=.normal/\∀ Z,E.X0.le Z->Bc Z (Z3 (Z7 lo H) j .dead) l->AW P ⟨Z,Z3 (Z7 lo H) j .dead,E.n,q',E.G,none,[],.round l⟩ body (F3 I B z lo j s k) s1) ⟨Zjf ps.toList (enc k) st.τ,Z3 (Z7 lo H) j .dead⟩):
  Yd P E.G X1 lo (.yield l) [] enc (λs H=>H j=.lp l { state:=if(z s).isNone then .ready else .done,pending:=z s,fn,tmps:=a.tmps,params:=ps,assign,body,defers:=dn }/\I s (Z3 H j .dead)) (λs k=>D s k/\z s=none) (λs k=>((z (B s k)).isNone,B s k)):=by
 refine⟨λ_ _=>rfl,?_⟩;rintro s k Y H f ⟨hD,hj⟩ hXY hI ⟨S,hIs⟩ hG hA;rw[hj]at S;rw[List.append_nil]at hA;obtain⟨L,R⟩:=hI.lps _ _ _ S;have T:=(Array.getElem?_eq_some_iff.1 L).1
 have hsz:f.size=ps.size:=by rw[hA.len];exact hpl k
 have m:Goes Y (Z7 lo H) Y (Z3 (Z7 lo H) j .dead):=Goes.sub hI λo=>by
  by_cases e:o=j
  simp_all;exact .inr (Zk _ _ e)
 have C:¬ LiveB Y (Z3 (Z7 lo H) j .dead) l:=by
  rintro(⟨o,c,g,fz,cs,bs,ho,hβ⟩|⟨o,r,ho⟩);obtain⟨b,bs',N,_,c',t,h2,_⟩:=m.inv.obj _ _ _ _ _ ho;rw[hβ]at N;cases N;rw[L]at h2;cases h2
  by_cases e:o=j
  subst e;rw[Ye]at ho;cases ho;rw[Zk _ _ e]at ho;exact e (R _ _ ho)
 let h:Loop:={ state:=.ready,pending:=none,fn,tmps:=a.tmps,params:=ps,assign,body,defers:=dn }
 have hy:=run_yield (P:=P) (args:=f) L hsz;refine⟨_,_,_,_,hy,roundIn_of_wpIn (F:=Fence.wide) trivial ?_⟩
 have hf:((ps.zip f).foldl (λtmps (x:Tmp×Value)=>tmps.setIfInBounds x.1 x.2) a.tmps)=((ps.toList.zip f.toList).foldl (fun(tmps:Array Value) p=>tmps.setIfInBounds p.1 p.2) a.tmps):=by
  rw[<- Array.foldl_toList,Array.toList_zip]
 obtain⟨N,h2⟩:=Zif (X:=Y) ps.toList f.toList (enc k) a.tmps st.τ (by simp[hsz]) (by simp[hpl]) (λp hp=>by rw[hX.sz];exact hps p hp) (λi q1 q2=>by simpa using hA.rel i (zu q1) q2) (λt=>((hX.tm t).mono hle).mono hXY);have hrd:Bc Y (Z3 (Z7 lo H) j .dead) l:=⟨⟨_,L⟩,C⟩;have hEY:E.X0.le Y:=(hX.go.le.trans hle).trans hXY
 have haw:=J Y s k H hEY hrd hD hj hIs { tmps:=(ps.zip f).foldl (λtmps (x:Tmp×Value)=>tmps.setIfInBounds x.1 x.2) a.tmps,defers:=[] } Y.w
  ⟨Y,rfl,(Goes.refl m.inv).gn (Ent.N_le _),⟨rfl,λi N h2=>by simp at N⟩,by show Array.size _=_;rw[hf,N];exact hX.sz,λt=>by show Rel Y (Array.getD _ t undef) _;rw[hf];exact h2 t,hG⟩
 refine wpIn_mono haw ?_;rintro e a1 w1 (⟨s1,⟨X3,u⟩,rfl,hbody⟩|⟨ch,rfl,hp⟩);rotate_left;exact(hp.no rfl).elim;have hw1:=u.hw;subst hw1;have U:X3.w.heap[l]?=some (.loop h):=(u.gz.kp.block l T C).trans L;refine⟨X3.w.putObj l (.loop { h with state:=.busy }),run_beginRound U rfl,?_⟩;have hgo:=Hf m.inv u.gz L rfl (o':=.loop { h with state:=.busy }) rfl C;have W:({ Y with w:=Y.w.putObj l (.loop { h with state:=.busy }) }:Cx).w.heap[l]?=some (.loop { h with state:=.busy }):=World.putObj_heap_same T;have y:¬ LiveB { Y with w:=Y.w.putObj l (.loop { h with state:=.busy }) } (Z3 (Z7 lo H) j .dead) l:=C
 have hb:=hbody { Y with w:=Y.w.putObj l (.loop { h with state:=.busy }) } (hEY.trans (Tg _ L rfl)) ⟨⟨_,W⟩,y⟩ a1 _ ⟨{ X3 with w:=X3.w.putObj l (.loop { h with state:=.busy }) },rfl,hgo.gn (Ent.N_le _),⟨u.df.1,λi N h2=>by
  have:=DefR.nil (k:=.round l) u.df
  rw[this]at N;simp at N⟩,u.sz,λt=>(u.tm t).mono (Tg _ U rfl),λg=>(u.gl g).turn _ U rfl⟩
 refine wpIn_mono hb ?_;rintro e a4 w4 (⟨Q,⟨A,M⟩,K⟩|⟨ch,rfl,hp⟩);rotate_left;exact(hp.no rfl).elim;have hw4:=M.hw;subst hw4;have hl4:A.w.heap[l]?=some (.loop { h with state:=.busy }):=(M.gz.kp.block l (by rw[World.putObj_size];exact T) y).trans W
 have hend:∀ d:Option Code,Goes Y (Z7 lo H) { A with w:=A.w.putObj l (.loop { h with state:=if d.isNone then .ready else .done,pending:=d }) } (Z3 Q.H j (.lp l { h with state:=if d.isNone then .ready else .done,pending:=d })):=λd=>by
  have g1:=Hf (X:={ Y with w:=Y.w.putObj l (.loop { h with state:=.busy }) }) (by
   have:=Hf m.inv (Goes.refl m.inv) L rfl (o':=.loop { h with state:=.busy }) rfl C
   exact this.inv) M.gz W rfl (o':=.loop h) rfl y
  have e:({ Y with w:=Y.w.putObj l (.loop { h with state:=.busy }) }:Cx).w.putObj l (.loop h)=Y.w:=by
   show World.putObj (World.putObj Y.w l _) l _=_
   unfold World.putObj;simp only[Array.setIfInBounds_setIfInBounds]
   have:Y.w.heap.setIfInBounds l (.loop h)=Y.w.heap:=by
    apply Array.ext_getElem?;intro i;rw[Array.getElem?_setIfInBounds]
    split
    rename_i q;subst q;exact L.symm;rfl
   rw[this]
  rw[e]at g1;have g2:Goes Y (Z7 lo H) { A with w:=A.w.putObj l (.loop h) } Q.H:=m.trans g1;have hlv:LiveB Y (Z7 lo H) l:=.inr ⟨j,_,S⟩
  have hno:∀ n r,Q.H n=.lp l r->False:=λn r hr=>by
   rcases M.gz.on l (.inr ⟨n,r,hr⟩)with q|q
   rw[World.putObj_size]at q;omega;exact y q
  have O:=(Array.getElem?_eq_some_iff.1 hl4).1;have g3:=Goes.turn g2 (b:=l) (o:=.loop h) (o':=.loop { h with state:=if d.isNone then .ready else .done,pending:=d }) (World.putObj_heap_same O) rfl rfl (.inr hlv) (H':=Q.H) (λ_=>.inl rfl) (λn r hr=>(hno n r hr).elim)
  have e2:({ A with w:=A.w.putObj l (.loop h) }:Cx).w.putObj l (.loop { h with state:=if d.isNone then .ready else .done,pending:=d })=A.w.putObj l (.loop { h with state:=if d.isNone then .ready else .done,pending:=d }):=by
   show World.putObj (World.putObj A.w l _) l _=_
   unfold World.putObj;simp only[Array.setIfInBounds_setIfInBounds]
  rw[e2]at g3;exact g3.newLp (World.putObj_heap_same O) (.inr hlv) (λn r _ hr=>hno n r hr)
 have hrun:∀ d:Option Code,(Instr.endRound l d).run P A.w=.ok (.bool d.isNone) (A.w.putObj l (.loop { h with state:=if d.isNone then .ready else .done,pending:=d })):=λd=>run_endRound (r:={ h with state:=.busy }) d hl4
 have fin:∀ d:Option Code,z (B s k)=d->I (B s k) (Z3 (Z7 lo Q.H) j .dead)->∃ v w',(Instr.endRound l d).run P A.w=.ok v w' /\
   ∃ Z H',Ending.returned v=.returned (.bool (z (B s k)).isNone)/\Z.w=w'/\Goes Y (Z7 lo H) Z H'/\(Z7 lo H' j=.lp l { state:=if(z (B s k)).isNone then .ready else .done,pending:=z (B s k),fn,tmps:=a.tmps,params:=ps,assign,body,defers:=dn }/\I (B s k) (Z3 (Z7 lo H') j .dead)):=by
  rintro d rfl hI4;refine⟨_,_,hrun _,_,_,rfl,rfl,hend _,?_,?_⟩;rw[Ng,if_pos hlo,Ye];rfl;rw[Ng,if_pos hlo];simp only[AObj.noMp]
  have:Z3 (Z3 (Z7 lo Q.H) j (.lp l { h with state:=if(z (B s k)).isNone then .ready else .done,pending:=z (B s k) })) j .dead=Z3 (Z7 lo Q.H) j .dead:=by
   funext o
   simp only[Z3]
   split<;>rfl
  rw[this];exact hI4
 cases e with
 |normal=>exact fin none K.1 K.2
 |ret=>exact fin (some .ret) K.1 K.2
 |exit id=>exact fin (some (.exit id)) K.1 K.2
 |goto t=>exact K.elim
 |panic ch=>exact K.elim
 |outgrown=>exact K.elim
theorem Zgp{st:AS}{a:Act}{X:Cx}(i:SatX E X st a X.w)(x:E.rk ≠ .plain)(p:∀ l0,E.rk=.round l0->Bc E.X0 E.H0 l0)(fn:FuncId)(ps:Array Tmp)(assign body:Code)(c:E.rk.isInl=false):
  ∃ l mark w1 dn,(Instr.enterLoop fn a.tmps ps assign body E.rk.F.round).run P X.w=.ok (l,mark) w1/\X.w.heap.size<=l/\w1.heap[l]?=some (.loop { state:=.ready,pending:=none,fn,tmps:=a.tmps,params:=ps,assign,body,defers:=dn }) /\
   Goes X st.H { X with w:=w1 } st.H/\DefR E.rk E.X0.w.heap.size { X with w:=w1 } (mark++a.defers) E.df:=by
 have j:=i.go.inv;have b:=i.df;have t:E.rk.F.round=E.rk.ro:=rfl
 cases h:E.rk with
 |plain=>grind
 |inl N=>rw[h]at c;cases c
 |marks=>
  rw[h]at b;have v:=Ch j (.deferred (some []));have B:=Ch v.inv (.loop { state:=.ready,pending:=none,fn,tmps:=a.tmps,params:=ps,assign,body,defers:=X.w.heap.size });have g:=v.trans B
  have z:((X.w.alloc (.deferred (some []))).alloc (.loop { state:=.ready,pending:=none,fn,tmps:=a.tmps,params:=ps,assign,body,defers:=X.w.heap.size })).heap[X.w.heap.size]?=some (.deferred (some [])):=
   (RowKit.Below.heap_alloc _ _ _ zS).trans (World.alloc_heap_new X.w _)
  refine⟨_,_,_,X.w.heap.size,run_enterLoop_outer fn a.tmps ps assign body,zo,?_,g,b.1,⟨X.w.heap.size,rfl,i.go.kp.size,z,λe u q=>?_⟩,(DefR.go (k:=.marks) b j g).2⟩;have:=World.alloc_heap_new (X.w.alloc (.deferred (some []))) (.loop { state:=.ready,pending:=none,fn,tmps:=a.tmps,params:=ps,assign,body,defers:=X.w.heap.size });simp_all
  have o:∀ {m:List Deferred},Marks E.X0.w.heap.size X.w m->∀ e∈m,∀ D,e.target=.collected D->D<X.w.heap.size:=by
   intro m
   induction m with
   |nil=>grind
   |cons d r ih=>
    rintro⟨⟨D,I,_,G,_⟩,C⟩ e u J y
    grind
  have:=o b.2 e u _ q;omega
 |round l0=>
  obtain⟨⟨n,f⟩,s⟩:=p l0 h;have A:X.w.heap[l0]?=some (.loop n):=((i.gz c).kp.block l0 (Array.getElem?_eq_some_iff.1 f).1 s).trans f;have g:=Ch j (.loop { state:=.ready,pending:=none,fn,tmps:=a.tmps,params:=ps,assign,body,defers:=n.defers });rw[h]at b;exact⟨_,_,_,n.defers,run_enterLoop_inner A fn a.tmps ps assign body,Nat.le_refl _,World.alloc_heap_new X.w _,g,DefR.go (k:=.round l0) b j g⟩
theorem AW.range{g:Operand}{ps:Array Tmp}{assign body:Code}{Q:Exit->AS->Prop}{st:AS}{gf:FuncId}{caps:List V}{σ κ : Type}{enc : κ -> List V}{xs:List κ}(lo1 lo ol q':Nat)(I : σ -> Heap->Prop)(nx : σ -> κ -> σ)(jm : σ -> Option Code)(D : σ -> κ -> Prop)(s0 : σ)
  (hg:st.ev E g=.func (.func gf) [] caps) (hen:Z5 P gf=true) (hro:∀ l0,E.rk=.round l0->Bc E.X0 E.H0 l0) (hps:∀ p∈ps.toList,p<E.n) (hpl:∀ k,(enc k).length=ps.size) (h01:lo1<=lo) (hlo:lo<=ol)
  {Pp:Heap->Prop} (hit:∀ l r,Z5l P E.G lo gf caps (Z3 (Z7 lo1 st.H) ol (.lp l r)) enc xs Pp) (hPp:∀ s H,I s (Z3 H ol .dead)->Pp H) (hj:jm s0=none) (hI0:I s0 (Z3 (Z7 lo st.H) ol .dead))
  (hD:R9 (λs k=>D s k/\jm s=none) (λs k=>((jm (nx s k)).isNone,nx s k)) s0 xs)
  (hround:∀ l Y s k H,E.X0.le Y->Bc Y (Z3 (Z7 lo H) ol .dead) l->D s k->jm s=none->I s (Z3 (Z7 lo H) ol .dead) ->
   AW P ⟨Y,Z3 (Z7 lo H) ol .dead,E.n,q',E.G,none,[],.round l⟩ assign (λe s1=>e=.normal/\∀ Z,E.X0.le Z->Bc Z (Z3 (Z7 lo H) ol .dead) l->AW P ⟨Z,Z3 (Z7 lo H) ol .dead,E.n,q',E.G,none,[],.round l⟩ body (F3 I nx jm lo ol s k) s1) ⟨Zjf ps.toList (enc k) st.τ,Z3 (Z7 lo H) ol .dead⟩)
  (hafter:∀ H2,I (Yl (λs k=>((jm (nx s k)).isNone,nx s k)) s0 xs).2 (Z3 (Z7 lo H2) ol .dead)->(∀ o,o<lo1->H2 o=st.H o)->H2 ol=.dead ->
   match jm (Yl (λs k=>((jm (nx s k)).isNone,nx s k)) s0 xs).2 with|none=>Q .normal ⟨st.τ,H2⟩|some c=>AW P E c Q ⟨st.τ,H2⟩)
  (hrk:E.rk ≠ .plain:=by exact RK.noConfusion) (hkp:E.kp=none:=by rfl) (hri:E.rk.isInl=false:=by rfl):AW P E (.rangeFunc g ps assign body) Q st:=by
 rintro a w ⟨X,hX⟩;have hw:=hX.hw;subst hw;refine wpIn_rangeFunc λfn _=>?_;obtain⟨l,mark,w1,dn,hent,hls,hl1,hgo1,hdf1⟩:=Zgp (P:=P) hX hrk hro fn ps assign body hri;have hfv:=hX.ev g;rw[hg]at hfv;generalize hq:a.eval g=q at hfv
 cases hfv with
 |func _ xs0 ys _ _ hx hy hxr hyr=>
 have hx0:xs0 = #[]:=Array.eq_empty_of_size_eq_zero hx;subst hx0
 have hrun:(callFunc gf (#[.func (.yield l) #[] #[]]++ys)).run P w1=.ok (.enter gf (#[.func (.yield l) #[] #[]]++ys)) w1:=by
  unfold Z5 at hen
  split at hen
  rename_i fn hfn;simp only[Bool.and_eq_true]at hen;obtain⟨hn1,hn2⟩:=hen
  have hn1':(fn.name == "runtime.NumGoroutine")=false:=zu hn1
  have hn2':fn.body.isNone=false:=by cases hb:fn.body<;>simp_all
  simp only[callFunc,Sem.run_bind,run_program,Result.andThen_ok,hfn,hn1',hn2'];simp;simp at hen
 refine⟨l,mark,w1,{ target:=.fn (.func gf) ys,args := #[.func (.yield l) #[] #[]] },w1,gf,#[.func (.yield l) #[] #[]]++ys,w1,hent,?_,λ_ _=>trivial,?_,λh=>(by cases h),?_⟩;simp only[resolve,hq,Deferred.ofValue,Sem.run_pure];simp[go_sem];simp only[invoke,hrun];refine(E.rk.calls).2 ?_;have hI1:=hgo1.inv
 have hno:∀ o r,o≠ol->st.H o=.lp l r->False:=λo r _ ho=>by
  have:=(hX.go.inv.lps _ _ _ ho).1;have:=(Array.getElem?_eq_some_iff.1 this).1;omega
 have hgo2:=hgo1.newLp hl1 (.inl hls) hno
 have hmask:∀ r,Z3 (Z7 lo1 st.H) ol (.lp l r)=Z7 lo1 (Z3 st.H ol (.lp l r)):=λr=>by rw[Ng,if_pos (Nat.le_trans h01 hlo)];rfl
 have hmask2:∀ r,Z7 lo (Z3 (Z7 lo1 st.H) ol (.lp l r))=Z3 (Z7 lo st.H) ol (.lp l r):=λr=>by rw[Ng,if_pos hlo,Pd _ h01];rfl
 have hyd:=Za0 (P:=P) (X1:={ X with w:=w1 }) lo ol q' l dn fn I nx jm D hlo hX hgo1.le hps hpl (hround l);have hI2:Inv { X with w:=w1 } (Z3 (Z7 lo1 st.H) ol (.lp l { state:=.ready,pending:=none,fn,tmps:=a.tmps,params:=ps,assign,body,defers:=dn })):=hmask _ ▸ (E1 hgo2.inv lo1).inv
 have hcall:=hit l _ { X with w:=w1 } _ _ σ _ _ _ s0 hyd hD (by
  rw[hmask2,hj,Ye];refine⟨rfl,?_⟩
  have:Z3 (Z3 (Z7 lo st.H) ol (.lp l { state:=.ready,pending:=none,fn,tmps:=a.tmps,params:=ps,assign,body,defers:=dn })) ol .dead=Z3 (Z7 lo st.H) ol .dead:=by
   funext o
   simp only[Z3]
   split<;>rfl
  rw[this];exact hI0) (λs H h=>hPp s _ h.2) hI2 (λg=>(hX.gl g).go hX.go.inv hgo1) (#[.func (.yield l) #[] #[]]++ys) ⟨by simp[hy];omega,λi h1 h2=>by
   cases i with
   |zero=>
    rw[Array.getElem_append_left zS];exact .func _ #[] #[] [] [] rfl rfl (λi h1 h2=>by simp at h2) (λi h1 h2=>by simp at h2)
   |succ i=>
    have:=hyr i (by simp at h1;omega) (zu h2);rw[Array.getElem_append_right zS]
    simpa using this.mono hgo1.le⟩
 refine hcall.mono ?_;rintro e w3 ⟨c,Y,H',rfl,_,rfl,hg3,hol3,hI3⟩;generalize hs:(Yl (λs k=>((jm (nx s k)).isNone,nx s k)) s0 xs).2=sf at *
 have hol3':H' ol=.lp l { state:=if(jm sf).isNone then .ready else .done,pending:=jm sf,fn,tmps:=a.tmps,params:=ps,assign,body,defers:=dn }:=by
  rw[W8 hlo]at hol3;exact Zdt hol3
 have hl3:=(hg3.inv.lps _ _ _ hol3').1;have hend:=run_endLoop (P:=P) hl3 (by simp only;split<;>simp);refine⟨jm sf,_,hend,?_⟩;rw[hmask]at hg3;have hg4:=((hX.gz hri).trans hgo2).trans (Pe hgo2.inv hg3)
 have hlow:low lo1 (Z3 st.H ol (.lp l { state:=.ready,pending:=none,fn,tmps:=a.tmps,params:=ps,assign,body,defers:=dn })) H' ol=.lp l { state:=if(jm sf).isNone then .ready else .done,pending:=jm sf,fn,tmps:=a.tmps,params:=ps,assign,body,defers:=dn }:=by
  unfold low;rw[if_pos (Nat.le_trans h01 hlo),hol3'];rfl
 have hg5:=hg4.turn hl3 rfl (o':=.loop { state:=.exhausted,pending:=jm sf,fn,tmps:=a.tmps,params:=ps,assign,body,defers:=dn }) rfl (.inl (Nat.le_trans hX.go.kp.size hls))
  (H':=Z3 (low lo1 (Z3 st.H ol (.lp l { state:=.ready,pending:=none,fn,tmps:=a.tmps,params:=ps,assign,body,defers:=dn })) H') ol (.lp l { state:=.exhausted,pending:=jm sf,fn,tmps:=a.tmps,params:=ps,assign,body,defers:=dn }))
  (λn=>by
   by_cases e:n=ol
   subst e;exact .inr ⟨_,_,hlow,Ye ..,rfl⟩
   exact .inl (Zk _ _ e)) (λn r hn=>by
   by_cases e:n=ol
   subst e
   left
   rw[Ye,hlow];intro h;simp only[AObj.lp.injEq,true_and,Loop.mk.injEq,and_true]at h
   split at h<;>cases h
   exact absurd ((hg4.inv.lps _ _ _ hlow).2 _ _ hn) e)
 have hg6:=hg5.trans (Goes.sub hg5.inv (H':=Z3 (low lo1 st.H H') ol .dead) λo=>by
  by_cases e:o=ol
  subst e;exact .inl (Ye ..)
  right
  rw[Zk _ _ e,Zk _ _ e];simp only[low]
  split
  rfl
  rw[Zk _ _ e])
 have hle:X.le { Y with w:=Y.w.putObj l (.loop { state:=.exhausted,pending:=jm sf,fn,tmps:=a.tmps,params:=ps,assign,body,defers:=dn }) }:=(hgo2.le.trans hg3.le).trans (Tg _ hl3 rfl)
 have hsat:Qx E ⟨st.τ,Z3 (low lo1 st.H H') ol .dead⟩ { a with defers:=mark++a.defers } (Y.w.putObj l (.loop { state:=.exhausted,pending:=jm sf,fn,tmps:=a.tmps,params:=ps,assign,body,defers:=dn })):=by
  refine⟨_,rfl,hg6.gn E.N_le,?_,hX.sz,λt=>(hX.tm t).mono hle,λg=>?_⟩;have hz:=(hdf1.go hgo2.inv (Pe hgo2.inv hg3));refine hz.mono (Tg _ hl3 rfl) λD hD=>World.putObj_heap_other λe=>?_;subst e;rw[hl3]at hD;cases hD;have:=((hX.gl g).go hX.go.inv hgo2).go hgo2.inv (Pe hgo2.inv hg3);exact this.turn _ hl3 rfl
 have ha:=hafter (Z3 (low lo1 st.H H') ol .dead) (by
  have:Z3 (Z7 lo (Z3 (low lo1 st.H H') ol .dead)) ol .dead=Z3 (Z7 lo H') ol .dead:=by
   have e:Z7 lo (low lo1 st.H H')=Z7 lo H':=Ob λo q=>by rw[low,if_pos (Nat.le_trans h01 q),Pb]
   rw[Ng,if_pos hlo,e]
   funext o
   simp only[Z3]
   split<;>rfl
  rw[this];exact hI3) (λo ho=>by rw[Zk _ _ zo,low,if_neg zo]) (Ye ..)
 cases hjm:jm sf with
 |none=>
  rw[hjm]at ha hsat;exact .inl ⟨_,hsat,ha⟩
 |some c=>
  rw[hjm]at ha hsat;exact ha _ _ hsat
theorem Cp{σ κ : Type}(I : σ -> Heap->Prop)(a : σ -> κ -> σ)(c : σ -> Option Code)(lo b:Nat)(s : σ)(k : κ)(s':AS):F3 I a c lo b s k .normal s'=(c (a s k)=none/\I (a s k) (Z3 (Z7 lo s'.H) b .dead)):=rfl
theorem Zhn{σ κ : Type}(I : σ -> Heap->Prop)(a : σ -> κ -> σ)(c : σ -> Option Code)(lo b:Nat)(s : σ)(k : κ)(s':AS):F3 I a c lo b s k .ret s'=(c (a s k)=some .ret/\I (a s k) (Z3 (Z7 lo s'.H) b .dead)):=rfl
theorem Zyu(p:Nat)(ps:List Nat)(v:V)(vs:List V)(τ : Nat->V):Zjf (p::ps) (v::vs) τ = Zjf ps vs (Z3 τ p v):=rfl
theorem Z8z(τ : Nat->V):Zjf [] [] τ = τ := rfl
attribute[go_sem]Cp Zhn Zyu Z8z
theorem Pt{g:Operand}{ps:Array Tmp}{a body:Code}{Q:Exit->AS->Prop}{st:AS}{M:FuncId}{j:List V}{σ κ : Type}{enc : κ -> List V}{xs:List κ}(b lo m u:Nat)(S : σ -> Heap)(q : σ -> κ -> σ)(i : σ -> Option Code)(D : σ -> κ -> Prop)(t : σ)
  (T:st.ev E g=.func (.func M) [] j) {O:Heap->Prop} (F:∀ l r,Z5l P E.G lo M j (Z3 (Z7 b st.H) m (.lp l r)) enc xs O) (J:Z3 (Z7 lo st.H) m .dead=S t)
  (W:R9 (λs k=>D s k/\i s=none) (λs k=>((i (q s k)).isNone,q s k)) t xs)
  (d:∀ l Y s k,Bc Y (S s) l->D s k->i s=none ->
   AW P ⟨Y,S s,E.n,u,E.G,none,[],.round l⟩ a (λe s1=>e=.normal/\∀ Z,Bc Z (S s) l->AW P ⟨Z,S s,E.n,u,E.G,none,[],.round l⟩ body (F3 (λs H=>H=S s) q i lo m s k) s1) ⟨Zjf ps.toList (enc k) st.τ,S s⟩)
  (f:∀ H2 sf,sf=(Yl (λs k=>((i (q s k)).isNone,q s k)) t xs).2->Z3 (Z7 lo H2) m .dead=S sf->(∀ o,o<b->H2 o=st.H o) ->
   match i sf with|none=>Q .normal ⟨st.τ,H2⟩|some c=>AW P E c Q ⟨st.τ,H2⟩)
  (v:∀ l0,E.rk=.round l0->Bc E.X0 E.H0 l0:=by exact λ_ h=>nomatch h) (I:Z5 P M=true:=by kernel_rfl) (y:(ps.toList.all λp=>Nat.blt p E.n)=true:=by rfl) (z:∀ k,(enc k).length=ps.size:=by exact λ_=>rfl) (L:b<=lo:=by decide) (A:lo<=m:=by decide) (C:i t=none:=by rfl)
  (w:E.rk ≠ .plain:=by exact RK.noConfusion) (B:E.kp=none:=by rfl) (x:E.rk.isInl=false:=by rfl) (hPp:∀ s H,Z3 H m .dead=S s->O H:=by exact λ_ _ _=>trivial):AW P E (.rangeFunc g ps a body) Q st:=by
 refine AW.range b lo m u (λs H=>H=S s) q i D t T I v (λp R=>by have:=List.all_eq_true.1 y p R;simp_all) z L A F hPp C J W (λl Y s k H _ N U C K=>?_) (λH2 K X _=>f H2 _ rfl K X) w B x;rw[K]at N⊢;refine(d l Y s k N U C).mono ?_
 grind
theorem Weak.rng{lo d:Nat}{τ : Nat->V}{a c:Heap}{l:List (Nat×V)}(h:Z3 (Z7 lo a) d .dead=c)(g:T8 τ l):Weak E ⟨τ,a⟩ ⟨Z6 emp l,c⟩:=by
 refine Ur (λ_=>false) (λt=>?_) (λo=>?_)
 rcases Wk (τ := emp) (f := τ) t l (Wq g)with b|b
 exact .inl b;refine .inr ?_
 show Fz _ a (τ t) (Z6 emp l t)
 rw[b];exact Fz.same _
 show FzO _ a o (c o)
 rw[<- h]
 by_cases e:o=d
 subst e;rw[Ye];trivial;rw[Zk _ _ e]
 rcases Nat.lt_or_ge o lo with q|q
 rw[X5 q];trivial
 .rw[W8 q]
  have:=FzO.same (F:=λ_=>false) (H:=a) (o:=o) rfl
  cases i:a o with
  |mp=>trivial
  |_=>rw[i]at this;exact this
theorem ZoM{G:Nat->V}{f:FuncId}{a:Func}{c:Code}{args:List V}{H:Heap}{K:V->Heap->Prop}(q:Nat)(n:Nat)(d:List ResultVar)(l:P.funcs[f]?=some a)(h:∀ X,AW P ⟨X,H,n,q,G,none,[],.marks⟩ c (Tr P d K) ⟨Ud 0 args,H⟩)
  (m:a.body=some c:=by rfl) (j:a.ntmps=n:=by rfl) (i:a.results.toList=d:=by rfl) (b:Nat.ble args.length n=true:=by rfl):Spec P G f args H K:=by
 subst j i
 exact λX _ _ o p r=>(O5 (.inr rfl) (λ_=>rfl) q l m b o p r (h X)).mono λe w' ⟨c,v,y,Y,g,x,w,u⟩=>by
  rcases g with ⟨g,t⟩|⟨k,s,_⟩
  grind
  grind
theorem B9{κ : Type}(p : κ -> Bool):∀ xs:List κ,(Yl (fun(_:Bool) k=>((if p k=true then some Code.ret else none:Option Code).isNone,p k)) false xs).2=xs.any p
 |[]=>rfl
 |k::r=>by
  rw[List.any_cons,Yl];cases h:p k;exact B9 p r;rfl
theorem Pm{σ κ : Type}{D : σ -> κ -> Prop}{a : σ -> Option Code}{b : σ -> κ -> σ}:∀ {xs:List κ} {s : σ},a s=none->(∀ k∈xs,∀ s,D s k)->R9 (λs k=>D s k/\a s=none) (λs k=>((a (b s k)).isNone,b s k)) s xs
 |[],_,_,_=>trivial
 |k::r,s,hj,h=>⟨⟨h k zS s,hj⟩,λq=>Pm (by simp_all) λx c=>h x (by grind)⟩
@[go_sem] def stM(lo:Nat)(B:Heap)(l:List (Nat×V))(m:List (Nat×AObj)):AS:=⟨Z6 emp l,Z6 (Z7 lo B) m⟩
theorem Y5{lo:Nat}{τ : Nat->V}{H B:Heap}{l:List (Nat×V)}{m:List (Nat×AObj)}(h:T8 τ l)(b:T8 H m)(d:Z7 lo H=Z7 lo B):Weak E ⟨τ,H⟩ (Hs.stM lo B l m):=by
 refine Ur (λ_=>false) (λt=>?_) (λo=>?_)
 rcases Wk (τ := emp) (f := τ) t l (Wq h)with a|a
 exact .inl a;refine .inr ?_
 show Fz _ H (τ t) (Z6 emp l t)
 rw[a];exact Fz.same _
 show FzO _ H o (Z6 (Z7 lo B) m o)
 rcases Wk (τ := Z7 lo B) (f:=H) o m (Wq b)with a|a
 rw[a,<- d]
 rcases Nat.lt_or_ge o lo with q|q
 rw[X5 q];trivial
 .rw[W8 q]
  have:=FzO.same (F:=λ_=>false) (H:=H) (o:=o) rfl
  cases c:H o with
  |mp=>trivial
  |_=>rw[c]at this;exact this
 rw[a];exact FzO.same rfl
end
end Go.Hs
