/- A part. No condition. -/
import Derived.Test.YtoahejkahaimnaaGreatDoorP37
import Derived.Test.YtoahejkahaimnaaGreatDoorP24
set_option linter.all false
namespace Go.Hs
section
variable{P:Program}{E:Ent}
structure Row where
 nm:Nat
 g:Nat
 l:List Int
def Row.v(r:Row):V:=grown r.nm r.g 1 r.l
@[go_sem] theorem Row.cells(r:Row):r.v.cells=[r.v]:=by
 obtain⟨a,b,l⟩:=r
 cases l<;>rfl
@[go_sem] theorem Row.solid(r:Row):r.v.solid=true:=by
 obtain⟨a,b,l⟩:=r
 cases l<;>rfl
def RnX(a g b k:Nat)(x x':AObj):Prop:=(∃ c j fz cs cs',x'=.cells c j fz cs'/\x=.cells c j fz cs/\cs'.length=cs.length/\∀ i (h1:i<cs.length) (h2:i<cs'.length),Rn a g b k cs[i] cs'[i]) \/
  ∃ lo b1 ks vs vs',x'=.mp lo b1 ks vs'/\x=.mp lo b1 ks vs/\vs'.length=vs.length/\∀ i (h1:i<vs.length) (h2:i<vs'.length),Rn a g b k vs[i] vs'[i]
theorem Rn.row(a g b k:Nat){l:List Int}(hl:l≠[]):Rn a g b k (grown a g 1 l) (grown b k 1 l):=by
 rw[Z2a _ _ _ hl,Z2a _ _ _ hl];exact .msl ..
theorem Rn.set{a g b k:Nat}{u u':V}(h:Rn a g b k u u')(cs:List V)(j:Nat):(cs.set j u').length=(cs.set j u).length/\∀ i (h1:i<(cs.set j u).length) (h2:i<(cs.set j u').length),Rn a g b k (cs.set j u)[i] (cs.set j u')[i]:=
 ⟨by rw[List.length_set,List.length_set],λi h1 h2=>by
  rw[List.getElem_set,List.getElem_set]
  split
  exact h
  exact .same _⟩
theorem Rn.app{a g b k:Nat}{u u':V}(h:Rn a g b k u u')(cs:List V):(cs++[u']).length=(cs++[u]).length/\∀ i (h1:i<(cs++[u]).length) (h2:i<(cs++[u']).length),Rn a g b k (cs++[u])[i] (cs++[u'])[i]:=
 ⟨zS,λi h1 h2=>by
  rw[List.getElem_append,List.getElem_append]
  split
  exact .same _
  have:i-cs.length=0:=by simp at h1;omega
  simp only[this,List.getElem_cons_zero]
  exact h⟩
theorem Zzja{c:Code}{Q:Exit->AS->Prop}{τ τ':Nat->V}{H H':Heap}(x:Nat)(F:V->AObj)(b site o2 g2:Nat){l:List Int}(hl:l≠[])(ho:o2=b\/o2=site)(hxb:x≠b)(hxs:x≠site)(hbs:b≠site)
  (hF:∀ a g b k,RnX a g b k (F (grown a g 1 l)) (F (grown b k 1 l))) (h2:H' o2=Zca g2 (V.int .i64) l) (hx:H' x=F (grown o2 g2 1 l)) (hH:∀ o,o≠x->o≠b->o≠site->H o=.dead\/H' o=H o) (hτ : ∀ t,τ t=.top \/ τ t = τ' t)
  (h:∀ k,AW P E c Q ⟨τ,upd (upd (upd H site .dead) x (F (grown b k 1 l))) b (Zca k (V.int .i64) l)⟩):AW P E c Q ⟨τ',H'⟩:=by
 have hob:o2≠x:=by rcases ho with rfl|rfl<;>omega
 refine AW.weak (s':=⟨τ,upd (upd (upd (upd H site .dead) b .dead) x (F (grown o2 g2 1 l))) o2 (Zca g2 (V.int .i64) l)⟩) (Zqd (λ_=>false) (λt=>?_) λo=>?_) ?_
 rcases hτ t with q|q
 exact .inl q;refine .inr ?_
 dsimp only
 rw[q];exact Fz.same _
 dsimp only
 by_cases e1:o=o2
 subst e1;rw[Z3,<- h2];exact FzO.same rfl;rw[Zi _ _ e1]
 by_cases e2:o=x
 subst e2;rw[Z3,<- hx];exact FzO.same rfl;rw[Zi _ _ e2]
 by_cases e3:o=b
 subst e3;rw[Z3];trivial;rw[Zi _ _ e3]
 by_cases e4:o=site
 subst e4;rw[Z3];trivial;rw[Zi _ _ e4]
 rcases hH o e2 e3 e4 with q|q
 rw[q];trivial;rw[<- q];exact FzO.same rfl
 rcases ho with rfl|rfl
 have e:upd (upd (upd (upd H site .dead) o2 .dead) x (F (grown o2 g2 1 l))) o2 (Zca g2 (V.int .i64) l)=upd (upd (upd H site .dead) x (F (grown o2 g2 1 l))) o2 (Zca g2 (V.int .i64) l):=by
  funext o
  simp only[upd]
  (repeat' split)<;>first|rfl|omega
 rw[e];exact h g2;refine AW.ren o2 g2 b ?_ λk=>⟨⟨τ,upd (upd (upd H o2 .dead) x (F (grown b k 1 l))) b (Zca k (V.int .i64) l)⟩,λt=>.inr (.same _),λo=>?_,h k⟩
 show upd _ _ _ b=_
 rw[Zi _ _ hbs,Zi _ _ (Ne.symm hxb),Z3]
 show RnO _ _ _ _ (upd (upd (upd (upd H o2 .dead) b .dead) x (F (grown o2 g2 1 l))) o2 (Zca g2 (V.int .i64) l)) o (upd (upd (upd H o2 .dead) x (F (grown b k 1 l))) b (Zca k (V.int .i64) l) o)
 by_cases e1:o=b
 subst e1;refine .inr (.inl ⟨rfl,?_⟩);rw[Z3,Z3,Zfb _ _ hl,Zfb _ _ hl];exact⟨_,_,_,_,rfl,rfl,rfl,λi _ _=>.same _⟩;rw[Zi _ _ e1]
 by_cases e2:o=x
 subst e2;refine .inr (.inr ⟨hxs,hxb,.inr ?_⟩);rw[Z3,Zi _ _ hxs,Z3]
 rcases hF o2 g2 b k with ⟨c,j,fz,cs,cs',q1,q2,q3,q4⟩|q
 exact .inl ⟨c,j,fz,cs,cs',q1,q2,q3,q4⟩;exact .inr q;rw[Zi _ _ e2]
 by_cases e3:o=o2
 subst e3;rw[Z3];exact .inl rfl;rw[Zi _ _ e3];refine .inr (.inr ⟨e3,e1,.inl ?_⟩);rw[Zi _ _ e3,Zi _ _ e2,Zi _ _ e1,Zi _ _ e3]
end
theorem Z5s{α : Type}{m:Nat}{f : α -> V}(hf:∀ x,(f x).cells.length=m){j:Nat}{v:V}(hj:j<m):∀ {l:List α} {i:Nat} {x y : α},l[i]?=some x->(f y).cells=(f x).cells.set j v->(flat (l.map f)).set (i*m+j) v=flat ((l.set i y).map f)
 |[],i,x,y,h,_=>by simp at h
 |z::t,0,x,y,h,hy=>by
  obtain rfl:z=x:=zu h
  show((f z).cells++flat (t.map f)).set (0*m+j) v=(f y).cells++flat (t.map f)
  rw[Nat.zero_mul,Nat.zero_add,List.set_append,if_pos (by rw[hf];exact hj),hy]
 |z::t,i+1,x,y,h,hy=>by
  show((f z).cells++flat (t.map f)).set ((i+1)*m+j) v=(f z).cells++flat ((t.set i y).map f)
  rw[List.set_append,if_neg (by rw[hf,Nat.succ_mul];omega),hf,show(i+1)*m+j-m=i*m+j by rw[Nat.succ_mul];omega,Z5s hf hj (zu h) hy]
theorem Z7s{α : Type}{m:Nat}{f : α -> V}(hf:∀ x,(f x).cells.length=m){j:Nat}{v:V}(hj:j<m):∀ {l:List α} {i:Nat} {x : α},l[i]?=some x->(f x).cells[j]?=some v->(flat (l.map f))[i*m+j]?=some v
 |[],i,x,h,_=>by simp at h
 |z::t,0,x,h,hy=>by
  obtain rfl:z=x:=zu h
  show((f z).cells++flat (t.map f))[0*m+j]?=some v
  rw[Nat.zero_mul,Nat.zero_add,List.getElem?_append_left (by rw[hf];exact hj),hy]
 |z::t,i+1,x,h,hy=>by
  show((f z).cells++flat (t.map f))[(i+1)*m+j]?=some v
  rw[List.getElem?_append_right (by rw[hf,Nat.succ_mul];omega),hf,show(i+1)*m+j-m=i*m+j by rw[Nat.succ_mul];omega];exact Z7s hf hj (zu h) hy
end Go.Hs
