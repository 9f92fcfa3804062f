/- A part. No condition. -/
import Derived.Test.YtkennpiglkfalaaGreatDoorP40
import Derived.Test.YtkennpiglkfalaaGreatDoorP21
set_option linter.all false
namespace Go.Hs
section
variable{P:Program}{E:BX}
structure TW where
 nm:Nat
 g:Nat
 l:iS
def TW.v(r:TW):V:=AZ r.nm r.g 1 r.l
def RnX(a g b k:Nat)(x x':BL):Prop:=(∃ c j fz cs cs',x'=.cells c j fz cs'/\x=.cells c j fz cs/\cs'.length=cs.length/\∀ i h1 (h2:i<cs'.length),Rn a g b k cs[i] cs'[i]) \/
  ∃ lo b1 ks vs vs',x'=.mp lo b1 ks vs'/\x=.mp lo b1 ks vs/\vs'.length=vs.length/\∀ i h1 (h2:i<vs'.length),Rn a g b k vs[i] vs'[i]
def Rn.row(a g b k){l:iS}(c:l≠[]):Rn a g b k (AZ a g 1 l) (AZ b k 1 l):=by rw[Xs _ _ _ c,Xs _ _ _ c];exact .A_ ..
def Rn.set{a g b k u u'}(h:Rn a g b k u u')(cs:List V)(j):(cs.set j u').length=(cs.set j u).length/\∀ i h1 (h2:i<(cs.set j u').length),Rn a g b k (cs.set j u)[i] (cs.set j u')[i]:=
 ⟨by grind,λi h1 h2=>by rw[JT,JT];split;exact h;exact .CG _⟩
def Rn.app{a g b k u u'}(h:Rn a g b k u u')(cs):(cs++[u']).length=(cs++[u]).length/\∀ i h1 (h2:i<(cs++[u']).length),Rn a g b k (cs++[u])[i] (cs++[u'])[i]:=
 ⟨zS,λi h1 h2=>by rw[List.getElem_append,List.getElem_append];split;exact .CG _;grind⟩
def rV{c Q τ τ'}{H H':A'}(x)(F:V->BL)(b site o2 g2){l}(v:l≠[])(D:o2=b\/o2=site)(p:x≠b)(n:x≠site)(r:b≠site)(I:∀ a g b k,RnX a g b k (F (AZ a g 1 l)) (F (AZ b k 1 l)))(h2:H' o2=Z9 g2 (V.int .i64) l)(C:H' x=F (AZ o2 g2 1 l))(G:∀ o,o≠x->o≠b->o≠site->H o=.AR\/H' o=H o)(B:∀ t,τ t=.top \/ τ t = τ' t)(h:∀ k,AW P E c Q ⟨τ,Ye (Ye (Ye H site .AR) x (F (AZ b k 1 l))) b (Z9 k (V.int .i64) l)⟩):AW P E c Q ⟨τ',H'⟩:=by
 refine BM (s':=⟨τ,Ye (Ye (Ye (Ye H site .AR) b .AR) x (F (AZ o2 g2 1 l))) o2 (Z9 g2 (V.int .i64) l)⟩) (T4 (λ_=>false) (λt=>?_) λo=>?_) ?_;rcases B t with q|q;grind;refine .inr ?_;dsimp only;rw[q];exact Zd;dsimp only;by_cases m:o=o2;subst m;rw[Ys,<- h2];exact DR rfl;rw[Zy _ _ m];by_cases f:o=x;subst f;rw[Ys,<- C];exact DR rfl;rw[Zy _ _ f];by_cases d:o=b;subst d;rw[Ys];trivial;rw[Zy _ _ d];by_cases s:o=site;subst s;rw[Ys];trivial;rw[Zy _ _ s];rcases G o f d s with q|q;rw[q];trivial;rw[<- q];exact DR rfl;rcases D with rfl|rfl;have e:Ye (Ye (Ye (Ye H site .AR) o2 .AR) x (F (AZ o2 g2 1 l))) o2 (Z9 g2 (V.int .i64) l)=Ye (Ye (Ye H site .AR) x (F (AZ o2 g2 1 l))) o2 (Z9 g2 (V.int .i64) l):=by
  funext o;simp only[Ye]
  (repeat' split)<;>first|rfl|omega
 rw[e];exact h g2;refine AW.ren o2 g2 b ?_ λk=>⟨⟨τ,Ye _ b _⟩,λt=>.inr (.CG _),λo=>?_,h k⟩;show Ye _ _ _ b=_;rw[Zy _ _ r,Zy _ _ (FS p),Ys];show WR _ _ _ _ (Ye (Ye (Ye (Ye H o2 .AR) b .AR) x (F (AZ o2 g2 1 l))) o2 (Z9 g2 (V.int .i64) l)) o (Ye (Ye (Ye H o2 .AR) x (F (AZ b k 1 l))) b (Z9 k (V.int .i64) l) o);by_cases m:o=b;subst m;refine .inr (.inl ⟨rfl,?_⟩);rw[Ys,Ys,X2 _ _ v,X2 _ _ v];exact⟨_,_,_,_,rfl,rfl,rfl,λi _ _=>.CG _⟩;rw[Zy _ _ m];by_cases f:o=x;subst f;refine .inr (.inr ⟨n,p,.inr ?_⟩);rw[Ys,Zy _ _ n,Ys];rcases I o2 g2 b k with ⟨c,j,J,K,u,A,z,y,w⟩|q;exact .inl ⟨c,j,J,K,u,A,z,y,w⟩;exact .inr q;rw[Zy _ _ f];by_cases d:o=o2;subst d;rw[Ys];exact .inl rfl;rw[Zy _ _ d];refine .inr (.inr ⟨d,m,.inl ?_⟩);rw[Zy _ _ d,Zy _ _ f,Zy _ _ m,Zy _ _ d]
end
def X4{α:Type}{m f}(a:∀ x,(f x).cells.length=m){j v}(b:j<m):∀ {l:List α} {i} {x y},l[i]?=some x->(f y).cells=(f x).cells.set j v->(flat (l.map f)).set (i*m+j) v=flat ((l.set i y).map f)
 |[],i,x,y,h,_=>by grind|z::t,0,x,y,h,hy=>by obtain rfl:z=x:=zG;show((f z).cells++flat _).set _ v=(f y).cells++flat _;grind
 |z::t,i+1,x,y,h,hy=>by show((f z).cells++flat _).set _ v=(f z).cells++flat _;rw[List.set_append,AA zG,a,show(i+1)*m+j-m=i*m+j by grind,X4 a b zG hy]
def As{α:Type}{m f}(a:∀ x,(f x).cells.length=m){j v}(b:j<m):∀ {l:List α} {i} {x},l[i]?=some x->(f x).cells[j]?=some v->(flat (l.map f))[i*m+j]?=some v
 |[],i,x,h,_=>by grind|z::t,0,x,h,hy=>by obtain rfl:z=x:=zG;show((f z).cells++flat _)[0*m+j]?=some v;grind
 |z::t,i+1,x,h,hy=>by show((f z).cells++flat _)[(i+1)*m+j]?=some v;rw[JS zG,a,show(i+1)*m+j-m=i*m+j by grind];exact As a b zG hy
