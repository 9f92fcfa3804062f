/- A part. No condition. -/
import Derived.Test.YtjplgaebbfabnaaGreatDoorP13
import Derived.OrdersIn
set_option linter.all false
namespace Go.Hs
section
variable{P:Program}{E:Ent}
theorem D5{ops:Array Oper}{Q:AS->Prop}{R:Exit->Act->World->Prop}{tail:List Nat}(z:∀ ch a w,Pan E ch a w->R (.panic ch) a w)(y:∀ s a w,Mb E s a w->Q s->wpOpsIn E.rk.F 0 P ops R tail a w)(t:(ops.all (Wo E.n))=true):∀ (l:List Oper) (k:Nat) (s:AS) (a:Act) (w:World),Mb E s a w->(∀ j,j<l.length->l[j]?=ops[k+j]?)->Yt P E ops Q l s ->
  wpOpsIn E.rk.F 0 P ops R ((List.range l.length).map (k + ·)++tail) a w
 |[],k,s,a,w,hs,_,h=>by
  exact y s a w hs h
 |o::rest,k,s,a,w,⟨X,hX⟩,hl,h=>by
  have B:ops[k]?=some o:=by have:=hl 0 zS;simpa using this.symm
  have p:∀ j,j<rest.length->rest[j]?=ops[k+1+j]? := λj G=>by have:=hl (j+1) (by grind);rw[show k+1+j=k+(j+1) by omega];simpa using this
  have f:∀ (r:Oper) d,r∈ops->r.dst=some d->d<E.n:=by
   intro r d A e;rw[Array.all_eq_true']at t;have:=t r A;unfold Wo at this;rw[e]at this;simpa using this
  have q:o∈ops:=by grind
  have g:(List.range (o::rest).length).map (k + ·)++tail=k::((List.range rest.length).map (k+1 + ·)++tail):=by
   simp only[List.length_cons,List.range_succ_eq_map,List.map_cons,Nat.add_zero,List.map_map,List.cons_append]
   congr 2
   apply List.map_congr_left;simp;omega
  rw[g];simp only[wpOpsIn,B];simp only[Yt]at h
  cases m:Z8 ops s.τ o with
  |none=>rw[m]at h;exact h.elim
  |some b=>
   have C:=V7 hX m f;rw[m]at h;rw[C]
   cases b with
   |true=>
    simp only[if_true]at h⊢;refine Oq _ (Jm h) (Oper.wp_mono ?_ (Lm hX (λd e=>f o d q e) h z));rintro I w' ⟨v,J,x,u⟩;exact D5 z y t rest (k+1) _ _ _ u p x
   |false=>
    simp only[Bool.false_eq_true,if_false]at h⊢;refine⟨λ_ _=>trivial,?_⟩;refine D5 z y t rest (k+1) _ _ _ ⟨X,?_⟩ p h;have:=hX.step (Goes.refl hX.go.inv) (dst:=o.dst) (c:=undef) (v:=.tuple []) (.tuple #[] [] rfl (λi H D=>by simp at D)) (λd e=>f o d q e);rw[hX.hw]at this;exact this
def HandX(P:Program)(E:Ent)(ops:Array Oper)(R:Exit->Act->World->Prop)(o:Oper)(s:AS)(K:AS->Prop):Prop:=
 (Z8 ops s.τ o=some true/\∀ X a,SatX E X s a X.w->o.wpIn E.rk.F 0 P a X.w (λb w'=>∃ s2,Mb E s2 b w'/\K s2) R)\/(Z8 ops s.τ o=some false/\K (s.put o.dst (.tuple [])))
def Mf(P:Program)(E:Ent)(ops:Array Oper)(R:Exit->Act->World->Prop)(K:AS->Prop):List Nat->Nat->AS->Prop
 |[],k,s=>Yt P E ops K (ops.toList.drop k) s
 |n::r,k,s=>Yt P E ops (λa=>∃ o,ops[n]?=some o/\HandX P E ops R o a (Mf P E ops R K r (n+1))) ((ops.toList.drop k).take (n-k)) s
def Dm(z:Nat):Nat->List Nat->Bool
 |_,[]=>true
 |k,n::r=>Nat.ble k n&&Nat.blt n z&&Dm z (n+1) r
theorem D6{ops:Array Oper}{K:AS->Prop}{R:Exit->Act->World->Prop}(t:∀ ch a w,Pan E ch a w->R (.panic ch) a w)(B:∀ s a w,Mb E s a w->K s->R .normal a w)(g:(ops.all (Wo E.n))=true):
  ∀ (ns:List Nat) (k:Nat) (s:AS) (a:Act) (w:World),Dm ops.size k ns=true->Mb E s a w->Mf P E ops R K ns k s->wpOpsIn E.rk.F 0 P ops R ((List.range (ops.size-k)).map (k + ·)) a w
 |[],k,s,a,w,_,hs,h=>by
  have:=Jz (P:=P) (R:=R) t B g (ops.toList.drop k) k s a w hs (λj=>by grind) h;rwa [List.length_drop,Array.length_toList]at this
 |n::r,k,s,a,w,hb,hs,h=>by
  simp only[Dm,Bool.and_eq_true,Nat.blt_eq]at hb;obtain⟨⟨C,G⟩,D⟩:=hb;have C:=Nat.le_of_ble_eq_true C
  have u:=D5 (P:=P) (E:=E) (R:=R) (tail:=n::(List.range (ops.size-(n+1))).map (n+1 + ·)) (ops:=ops) t
   (λU Q T p J=>by
    obtain⟨o,y,m⟩:=J;obtain⟨X,l⟩:=p;have I:=l.hw;subst I;simp only[wpOpsIn,y]
    have b:∀ (q:Oper) d,q∈ops->q.dst=some d->d<E.n:=by
     intro q d L e;rw[Array.all_eq_true']at g;have:=g q L;unfold Wo at this;rw[e]at this;simpa using this
    rcases m with ⟨f,m⟩|⟨f,m⟩
    rw[V7 l f b];refine Oper.wpIn_mono ?_ (m X Q l);rintro S w' ⟨H,x,M⟩;exact D6 t B g r (n+1) H S w' D x M;rw[V7 l f b];refine⟨λ_ _=>trivial,D6 t B g r (n+1) _ _ _ D ⟨X,?_⟩ m⟩
    have A:o∈ops:=by rw[Array.getElem?_eq_some_iff]at y;obtain⟨z,rfl⟩:=y;exact Array.getElem_mem z
    exact l.step (Goes.refl l.go.inv) (dst:=o.dst) (c:=undef) (v:=.tuple []) (.tuple #[] [] rfl (λi C G=>by simp at G)) (λd e=>b o d A e))
   g ((ops.toList.drop k).take (n-k)) k s a w hs (λj N=>by
    rw[List.length_take]at N
    rw[List.getElem?_take_of_lt zo,List.getElem?_drop,Array.getElem?_toList]) h
  have O:(List.range (ops.size-k)).map (k + ·)=(List.range ((ops.toList.drop k).take (n-k)).length).map (k + ·)++n::(List.range (ops.size-(n+1))).map (n+1 + ·):=by
   rw[List.length_take,List.length_drop,Array.length_toList,Nat.min_eq_left zo];rw[show ops.size-k=(n-k)+((ops.size-(n+1))+1) by omega,List.range_add,List.range_succ_eq_map];simp only[List.map_append,List.map_cons,List.map_map,Nat.add_zero]
   congr 2
   omega;apply List.map_congr_left;intro j _;simp only[Function.comp];omega
  rw[O];exact u
theorem Ol{ops:Array Oper}{K K':AS->Prop}(c:∀ s,K s->K' s):∀ {l:List Oper} {s:AS},Yt P E ops K l s->Yt P E ops K' l s
 |[],s,h=>c s h
 |o::r,s,h=>by
  simp only[Yt]at h⊢
  cases a:Z8 ops s.τ o with
  |none=>grind
  |some b=>
   rw[a]at h
   cases b with
   |true=>exact Xn (λ_ _ h=>Ol c h) h
   |false=>exact Ol c h
theorem Wh{id:Nat}{ops:Array Oper}{Q:Exit->AS->Prop}{s:AS}(c:List Nat)(d:(ops.all (Wo E.n))=true)(e:Dm ops.size 0 c=true)(h:Mf P E ops (Post E Q) (Q .normal) c 0 s):AW P E (.region id ops false) Q s:=by
 intro a w b;refine wpIn_region ?_;have:=D6 (P:=P) (R:=Post E Q) (λi a w h=>.inr ⟨i,rfl,h⟩) (λs a w g f=>.inl ⟨s,g,f⟩) d c 0 s a w e b h;simp_all
theorem Zax{id:Nat}{ops:Array Oper}{Q:Exit->AS->Prop}{s:AS}(n:Nat){o:Oper}(d:(ops.all (Wo E.n))=true)(b:ops[n]?=some o)(c:o.guard=none)
  (h:Yt P E ops (λs1=>∀ X a,SatX E X s1 a X.w->o.wpIn E.rk.F 0 P a X.w (λa' w'=>∃ s2,Mb E s2 a' w'/\Yt P E ops (Q .normal) (ops.toList.drop (n+1)) s2) (Post E Q)) (ops.toList.take n) s):AW P E (.region id ops false) Q s:=by
 have f:n<ops.size:=by grind
 refine Wh [n] d (by simp only[Dm,Bool.and_true,Bool.and_eq_true,Nat.blt_eq];simp_all) ?_
 show Yt P E ops _ ((ops.toList.drop 0).take (n-0)) s
 refine Ol (λs1 e=>⟨o,b,.inl ⟨by simp[Z8,c],e⟩⟩) h
def GivesE(P:Program)(E:Ent)(o:Oper)(s:AS)(v:V)(H':Heap):Prop:=
 ∀ X a w,SatX E X s a w->∃ c Y,(execOp a.eval o).run P X.w=.ok (.value c) Y.w/\Goes X s.H Y H'/\Rel Y c v
theorem GivesE.hand{ops:Array Oper}{R:Exit->Act->World->Prop}{o:Oper}{s:AS}{v:V}{H':Heap}{K:AS->Prop}{X:Cx}{a:Act}(h:GivesE P E o s v H')(e:∀ c,o.op ≠ .defer c)(j:(ops.all (Wo E.n))=true){n:Nat}(p:ops[n]?=some o)(k:SatX E X s a X.w)(m:K (AS.put { s with H:=H' } o.dst v)):
  o.wpIn E.rk.F 0 P a X.w (λa' w'=>∃ s2,Mb E s2 a' w'/\K s2) R:=by
 refine Oq _ e ?_;obtain⟨c,Y,b,g,l⟩:=h X a _ k;unfold Oper.wp;rw[b];refine⟨_,⟨Y,k.step g l λd i=>?_⟩,m⟩
 have f:o∈ops:=by grind
 rw[Array.all_eq_true']at j;have:=j o f;unfold Wo at this
 grind
theorem Jd{id:Nat}{ops:Array Oper}{Q:Exit->AS->Prop}{s:AS}(n:Nat){o:Oper}(d:(ops.all (Wo E.n))=true)(b:ops[n]?=some o)(e:o.guard=none)
  (h:Yt P E ops (λs1=>∃ v H',GivesE P E o s1 v H'/\Yt P E ops (Q .normal) (ops.toList.drop (n+1)) (AS.put { s1 with H:=H' } o.dst v)) (ops.toList.take n) s) (a:∀ c,o.op ≠ .defer c:=by exact λ_ h=>nomatch h):AW P E (.region id ops false) Q s:=
 Zax n d b e (Ol (λ_ ⟨_,_,i,g⟩ _ _ f=>i.hand (K:=Yt P E ops (Q .normal) (ops.toList.drop (n+1))) a d b f g) h)
def Gives(P:Program)(E:Ent)(o:Oper)(s:AS)(v:V):Prop:=∀ X a w,SatX E X s a w->∃ c,(execOp a.eval o).run P X.w=.ok (.value c) X.w/\Rel X c v
theorem Gives.e{o:Oper}{s:AS}{v:V}(h:Gives P E o s v):GivesE P E o s v s.H:=λX a w b=>let ⟨c,h1,h2⟩:=h X a w b;⟨c,X,h1,Goes.refl b.go.inv,h2⟩
theorem Qd{id:Nat}{ops:Array Oper}{Q:Exit->AS->Prop}{s:AS}(n:Nat){o:Oper}(f:(ops.all (Wo E.n))=true)(b:ops[n]?=some o)(d:o.guard=none)
  (h:Yt P E ops (λs1=>∃ v,Gives P E o s1 v/\Yt P E ops (Q .normal) (ops.toList.drop (n+1)) (AS.put s1 o.dst v)) (ops.toList.take n) s) (a:∀ c,o.op ≠ .defer c:=by exact λ_ h=>nomatch h):AW P E (.region id ops false) Q s:=
 Jd n f b d (Ol (λs1 ⟨v,i,g⟩=>⟨v,s1.H,i.e,g⟩) h) a
end
end Go.Hs
