/- A part. No condition. -/
import Derived.Test.YtjplgaebbfabnaaGreatDoorP46
import Derived.Test.YtjplgaebbfabnaaGreatDoorP23
set_option linter.all false
namespace Go.Hs
section
variable{P:Program}{E:Ent}
structure Row where
 nm:Nat
 g:Nat
 l:List Int
def Row.v(r:Row):V:=grown r.nm r.g 1 r.l
def RnX(a g b k:Nat)(x x':AObj):Prop:=(∃ c j fz cs cs',x'=.cells c j fz cs'/\x=.cells c j fz cs/\cs'.length=cs.length/\∀ i (h1:i<cs.length) (h2:i<cs'.length),Rn a g b k cs[i] cs'[i]) \/
  ∃ lo b1 ks vs vs',x'=.mp lo b1 ks vs'/\x=.mp lo b1 ks vs/\vs'.length=vs.length/\∀ i (h1:i<vs.length) (h2:i<vs'.length),Rn a g b k vs[i] vs'[i]
theorem Rn.row(a g b k:Nat){l:List Int}(c:l≠[]):Rn a g b k (grown a g 1 l) (grown b k 1 l):=by
 rw[X8 _ _ _ c,X8 _ _ _ c];exact .msl ..
theorem Rn.set{a g b k:Nat}{u c:V}(h:Rn a g b k u c)(cs:List V)(j:Nat):(cs.set j c).length=(cs.set j u).length/\∀ i (h1:i<(cs.set j u).length) (h2:i<(cs.set j c).length),Rn a g b k (cs.set j u)[i] (cs.set j c)[i]:=
 ⟨by grind,λi h1 h2=>by
  rw[List.getElem_set,List.getElem_set]
  split
  exact h
  exact .same _⟩
theorem Rn.app{a g b k:Nat}{u c:V}(h:Rn a g b k u c)(cs:List V):(cs++[c]).length=(cs++[u]).length/\∀ i (h1:i<(cs++[u]).length) (h2:i<(cs++[c]).length),Rn a g b k (cs++[u])[i] (cs++[c])[i]:=
 ⟨zS,λi h1 h2=>by
  rw[List.getElem_append,List.getElem_append]
  split
  exact .same _
  grind⟩
theorem Zo4{c:Code}{Q:Exit->AS->Prop}{τ w:Nat->V}{H H':Heap}(x:Nat)(F:V->AObj)(b d o2 g2:Nat){l:List Int}(y:l≠[])(I:o2=b\/o2=d)(r:x≠b)(p:x≠d)(s:b≠d)
  (K:∀ a g b k,RnX a g b k (F (grown a g 1 l)) (F (grown b k 1 l))) (L:H' o2=Yb g2 (V.int .i64) l) (G:H' x=F (grown o2 g2 1 l)) (J:∀ o,o≠x->o≠b->o≠d->H o=.dead\/H' o=H o) (D : ∀ t,τ t=.top \/ τ t = w t)
  (h:∀ k,AW P E c Q ⟨τ,Ya (Ya (Ya H d .dead) x (F (grown b k 1 l))) b (Yb k (V.int .i64) l)⟩):AW P E c Q ⟨w,H'⟩:=by
 refine AW.weak (s':=⟨τ,Ya (Ya (Ya (Ya H d .dead) b .dead) x (F (grown o2 g2 1 l))) o2 (Yb g2 (V.int .i64) l)⟩) (Tc (λ_=>false) (λt=>?_) λo=>?_) ?_
 rcases D t with q|q
 grind
 refine .inr ?_
 dsimp only
 rw[q];exact Zb
 dsimp only
 by_cases n:o=o2
 subst n;rw[Ym,<- L];exact FzO.same rfl;rw[Zp _ _ n]
 by_cases m:o=x
 subst m;rw[Ym,<- G];exact FzO.same rfl;rw[Zp _ _ m]
 by_cases f:o=b
 subst f;rw[Ym];trivial;rw[Zp _ _ f]
 by_cases u:o=d
 subst u;rw[Ym];trivial;rw[Zp _ _ u]
 rcases J o m f u with q|q
 rw[q];trivial;rw[<- q];exact FzO.same rfl
 rcases I with rfl|rfl
 have e:Ya (Ya (Ya (Ya H d .dead) o2 .dead) x (F (grown o2 g2 1 l))) o2 (Yb g2 (V.int .i64) l)=Ya (Ya (Ya H d .dead) x (F (grown o2 g2 1 l))) o2 (Yb g2 (V.int .i64) l):=by
  funext o
  simp only[Ya]
  (repeat' split)<;>first|rfl|omega
 rw[e];exact h g2;refine AW.ren o2 g2 b ?_ λk=>⟨⟨τ,Ya (Ya (Ya H o2 .dead) x (F (grown b k 1 l))) b (Yb k (V.int .i64) l)⟩,λt=>.inr (.same _),λo=>?_,h k⟩
 show Ya _ _ _ b=_
 rw[Zp _ _ s,Zp _ _ (Ne.symm r),Ym]
 show RnO _ _ _ _ (Ya (Ya (Ya (Ya H o2 .dead) b .dead) x (F (grown o2 g2 1 l))) o2 (Yb g2 (V.int .i64) l)) o (Ya (Ya (Ya H o2 .dead) x (F (grown b k 1 l))) b (Yb k (V.int .i64) l) o)
 by_cases n:o=b
 subst n;refine .inr (.inl ⟨rfl,?_⟩);rw[Ym,Ym,W7 _ _ y,W7 _ _ y];exact⟨_,_,_,_,rfl,rfl,rfl,λi _ _=>.same _⟩;rw[Zp _ _ n]
 by_cases m:o=x
 subst m;refine .inr (.inr ⟨p,r,.inr ?_⟩);rw[Ym,Zp _ _ p,Ym]
 rcases K o2 g2 b k with ⟨c,j,M,N,v,C,B,A,z⟩|q
 exact .inl ⟨c,j,M,N,v,C,B,A,z⟩;exact .inr q;rw[Zp _ _ m]
 by_cases f:o=o2
 subst f;rw[Ym];exact .inl rfl;rw[Zp _ _ f];refine .inr (.inr ⟨f,n,.inl ?_⟩);rw[Zp _ _ f,Zp _ _ m,Zp _ _ n,Zp _ _ f]
end
theorem M1{α : Type}{m:Nat}{f : α -> V}(a:∀ x,(f x).cells.length=m){j:Nat}{v:V}(b:j<m):∀ {l:List α} {i:Nat} {x y : α},l[i]?=some x->(f y).cells=(f x).cells.set j v->(flat (l.map f)).set (i*m+j) v=flat ((l.set i y).map f)
 |[],i,x,y,h,_=>by grind
 |z::t,0,x,y,h,hy=>by
  obtain rfl:z=x:=by grind
  show((f z).cells++flat (t.map f)).set (0*m+j) v=(f y).cells++flat (t.map f)
  grind
 |z::t,i+1,x,y,h,hy=>by
  show((f z).cells++flat (t.map f)).set ((i+1)*m+j) v=(f z).cells++flat ((t.set i y).map f)
  rw[List.set_append,if_neg (by grind),a,show(i+1)*m+j-m=i*m+j by grind,M1 a b (by grind) hy]
theorem Lx{α : Type}{m:Nat}{f : α -> V}(a:∀ x,(f x).cells.length=m){j:Nat}{v:V}(b:j<m):∀ {l:List α} {i:Nat} {x : α},l[i]?=some x->(f x).cells[j]?=some v->(flat (l.map f))[i*m+j]?=some v
 |[],i,x,h,_=>by grind
 |z::t,0,x,h,hy=>by
  obtain rfl:z=x:=by grind
  show((f z).cells++flat (t.map f))[0*m+j]?=some v
  grind
 |z::t,i+1,x,h,hy=>by
  show((f z).cells++flat (t.map f))[(i+1)*m+j]?=some v
  rw[List.getElem?_append_right (by grind),a,show(i+1)*m+j-m=i*m+j by grind];exact Lx a b (by grind) hy
end Go.Hs
