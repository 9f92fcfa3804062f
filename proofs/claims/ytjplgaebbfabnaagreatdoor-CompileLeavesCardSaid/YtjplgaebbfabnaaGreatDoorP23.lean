/- A part. No condition. -/
import Derived.Test.YtjplgaebbfabnaaGreatDoorP22
set_option linter.all false
namespace Go.Hs
section
variable{P:Program}{E:Ent}
def grown{α : Type}(o g m:Nat)(l:List α):V:=match l with|[]=>.nils|_::_=>.msl o g 0 l.length m
def Yb{α : Type}(g:Nat)(f : α -> V)(l:List α):AObj:=match l with|[]=>.dead|_::_=>.cells .new g 0 (flat (l.map f))
theorem Vm{α : Type}(o g m:Nat):grown o g m ([]:List α)=.nils:=rfl
theorem Wd{α : Type}(g:Nat)(f : α -> V):Yb g f []=.dead:=rfl
theorem X8{α : Type}(o g m:Nat){l:List α}(h:l≠[]):grown o g m l=.msl o g 0 l.length m:=by cases l with|nil=>grind|cons=>rfl
theorem W7{α : Type}(g:Nat)(f : α -> V){l:List α}(h:l≠[]):Yb g f l=.cells .new g 0 (flat (l.map f)):=by cases l with|nil=>grind|cons=>rfl
theorem Xu{α : Type}{m:Nat}{f : α -> V}(a:∀ x,(f x).cells.length=m)(l:List α):(flat (l.map f)).length=l.length*m:=by
 induction l with
 |nil=>simp[flat]
 |cons x r ih=>
  simp only[flat,List.map_cons,List.flatMap_cons,List.length_append,List.length_cons]at *
  grind
theorem U6(a b:List V):flat (a++b)=flat a++flat b:=by simp[flat]
theorem Yp{α : Type}(f:Nat -> α)(k:Nat)(x : α)(h:f k=x):Ya f k x=f:=by
 funext n
 simp only[Ya]
 grind
theorem Z0s{α : Type}(o g m:Nat)(l:List α):J6 true (grown o g m l)=some (.int .i64 l.length):=by cases l<;>rfl
theorem Zuk{α : Type}(o g m:Nat)(l:List α):(grown o g m l).cells=[grown o g m l]:=by cases l<;>rfl
theorem Zci{α : Type}(o g m:Nat)(l:List α):(grown o g m l).solid=true:=by cases l<;>rfl
attribute[go_sem]Z0s Zuk Zci
section
variable{ops:Array Oper}{Q:AS->Prop}{rest:List Oper}{τ : Nat->V}{H:Heap}
theorem Ys{α : Type}{f : α -> V}{m bytes:Nat}(i:∀ x,(f x).cells.length=m){e g:Nat}{l l2:List α}{xc:List V}{n:Nat}(o:n=l2.length)(j:xc=flat (l2.map f)){ob:AObj}
  (c:ob=obS H (grown (E.q+e) g m l)) (d:H (E.q+e)=Yb g f l) (k:U3 bytes (l.length+l2.length))
  (h:∀ g2,Yt P E ops Q rest ⟨Ya τ e (grown (E.q+e) g2 m (l++l2)),Ya H (E.q+e) (Yb g2 f (l++l2))⟩):
  Bu P E ops Q rest e τ H m bytes (grown (E.q+e) g m l) (some (n,xc)) ob:=by
 subst c o j
 cases l with
 |nil=>
  simp only[Wd,List.nil_append]at *;refine⟨by grind,λp=>?_,λp g2=>?_⟩
  have:l2=[]:=by grind
  subst this;have:=h 0;rwa [Wd,Yp H _ _ d]at this
  have a:l2≠[]:=by grind
  have:=h g2;rwa [X8 _ _ _ a,W7 _ _ a]at this
 |cons x r=>
  have a:x::r≠[]:=zS;have b:(x::r)++l2≠[]:=zS;rw[X8 _ _ _ a]at *;rw[W7 _ _ a]at d;rw[Et,d];refine⟨rfl,k,rfl,by rw[Xu i];omega,zo,λg2=>?_⟩;have:=h g2;rw[X8 _ _ _ b]at this
  have s:((flat (List.map f (x::r))).drop 0).take ((x::r).length*m)=flat (List.map f (x::r)):=by
   rw[List.drop_zero,<- Xu i,List.take_length]
  rw[s,<- U6,<- List.map_append];rwa [List.length_append]at this
theorem Pf{α : Type}{f : α -> V}{m bytes:Nat}(i:∀ x,(f x).cells.length=m){e o g:Nat}{l l2:List α}{xc:List V}{n:Nat}(p:n=l2.length)(j:xc=flat (l2.map f)){ob:AObj}
  (c:ob=obS H (grown o g m l)) (d:H o=Yb g f l) (k:U3 bytes (l.length+l2.length))
  (h:∀ o2 g2,o2=o\/o2=E.q+e->Yt P E ops Q rest ⟨Ya τ e (grown o2 g2 m (l++l2)),Ya H o2 (Yb g2 f (l++l2))⟩):
  Bu P E ops Q rest e τ H m bytes (grown o g m l) (some (n,xc)) ob:=by
 subst c p j
 cases l with
 |nil=>
  simp only[Wd,List.nil_append]at *;refine⟨by grind,λs=>?_,λs g2=>?_⟩
  have:l2=[]:=by grind
  subst this;have:=h o 0 (.inl rfl);rwa [Wd,Yp H _ _ d]at this
  have a:l2≠[]:=by grind
  have:=h (E.q+e) g2 (.inr rfl);rwa [X8 _ _ _ a,W7 _ _ a]at this
 |cons x r=>
  have a:x::r≠[]:=zS;have b:(x::r)++l2≠[]:=zS;rw[X8 _ _ _ a]at *;rw[W7 _ _ a]at d;rw[Et,d];refine⟨rfl,k,rfl,by rw[Xu i];omega,zo,λg2=>?_⟩;have:=h o g2 (.inl rfl);rw[X8 _ _ _ b]at this
  have t:((flat (List.map f (x::r))).drop 0).take ((x::r).length*m)=flat (List.map f (x::r)):=by
   rw[List.drop_zero,<- Xu i,List.take_length]
  rw[t,<- U6,<- List.map_append];rwa [List.length_append]at this
end
theorem bk_new:Col.new.bk=.new:=rfl
theorem Zod:Col.any.bk=.any:=rfl
theorem Zk0:Col.new.moved=.new:=rfl
attribute[go_sem]bk_new Zod Zk0
theorem Z4{b n:Nat}(a:b<=1000)(c:n<10000000000):U3 b n:=by
 refine⟨?_,zo⟩;have:n*b<=10000000000*1000:=Nat.mul_le_mul zo a;omega
theorem Fz.same{F:Nat->Bool}{H:Heap}(v:V):Fz F H v v:=.base _ _ (.inl rfl)
theorem Fz.top{F:Nat->Bool}{H:Heap}(v:V):Fz F H v .top:=.base _ _ (.inr (.inl rfl))
theorem Fz.any{F:Nat->Bool}{H:Heap}{v a:V}(h:v.recol (λ_=>.any)=a):Fz F H v a:=.base _ _ (.inr (.inr h.symm))
theorem Xa{α : Type}{F:Nat->Bool}{H:Heap}{o g m fz:Nat}{c:Col}{f : α -> V}{l:List α}(d:F o=true)(b:H o=.cells c g fz (flat (l.map f)))(a:∀ x,(f x).cells.length=m):
  Fz F H (.msl o g 0 l.length m) (.slice c false m (l.map f)):=by
 refine .msl o g 0 l.length m c fz _ _ d b zS (by grind) (by rw[Xu a];omega) λi h e=>?_;refine .base _ _ (.inl ?_)
 grind
def Zd{α : Type}(l:List α):Sl α := match l with|[]=>.nil|x::r=>.mk false (x::r)
@[go_sem] theorem Zm{α : Type}(l:List α):(Zd l).l=l:=by cases l<;>rfl
theorem Y5{α : Type}{F:Nat->Bool}{H:Heap}{o g m:Nat}{f : α -> V}{l:List α}(c:F o=true)(b:H o=Yb g f l)(a:∀ x,(f x).cells.length=m):
  Fz F H (grown o g m l) (Za .new m f (Zd l)):=by
 cases l with
 |nil=>exact Fz.same _
 |cons x r=>exact Xa c b a
theorem FzO.same{F:Nat->Bool}{H:Heap}{o:Nat}(a:F o=false):FzO F H o (H o):=by
 cases h:H o with
 |dead=>trivial
 |mp lo b ks vs=>exact⟨vs,h,rfl,λi _ _=>.base _ _ (.inl rfl)⟩
 |lp b r=>exact h
 |cells c g fz cs=>exact⟨c,fz,cs,h,.inl rfl,Nat.le_refl _,by grind,rfl,λi e d=>Fz.same _⟩
theorem FzO.keep{F:Nat->Bool}{H:Heap}{o:Nat}{ob:AObj}(b:F o=false)(a:H o=ob):FzO F H o ob:=a ▸ FzO.same b
def FzL(F:Nat->Bool)(H:Heap):List V->List V->Prop
 |[],[]=>True
 |a::r,b::t=>Fz F H a b/\FzL F H r t
 |_,_=>False
theorem FzL.get{F:Nat->Bool}{H:Heap}:∀ {l r:List V},FzL F H l r->r.length=l.length/\∀ i (h1:i<l.length) (h2:i<r.length),Fz F H l[i] r[i]
 |[],[],_=>⟨rfl,λi h1=>by grind⟩
 |[],_::_,h=>h.elim
 |_::_,[],h=>h.elim
 |a::l,b::r,h=>by
  obtain⟨h1,h2⟩:=FzL.get h.2;refine⟨by grind,λi k1 k2=>?_⟩
  cases i with
  |zero=>exact h.1
  |succ i=>grind
theorem FzO.of{F:Nat->Bool}{H:Heap}{o:Nat}{c:Col}{g fz:Nat}{cs a:List V}(d:F o=false)(b:H o=.cells c g fz cs)(h:FzL F H cs a):FzO F H o (.cells c g fz a):=
 ⟨c,fz,cs,b,.inl rfl,Nat.le_refl _,by grind,h.get.1,h.get.2⟩
theorem Z8p{F:Nat->Bool}{H:Heap}{o lo b:Nat}{ks vs a:List V}(c:H o=.mp lo b ks vs)(h:FzL F H vs a):FzO F H o (.mp lo b ks a):=⟨vs,c,h.get.1,h.get.2⟩
theorem Gt{F:Nat->Bool}{H:Heap}{o:Nat}{c:Col}{g fz:Nat}{cs a:List V}(d:F o=false)(b:H o=.cells c g fz cs)(h:FzL F H cs a):FzO F H o (.cells .any g fz a):=
 ⟨c,fz,cs,b,.inr rfl,Nat.le_refl _,by grind,h.get.1,h.get.2⟩
def Iy(F:Nat->Bool)(H:Heap)(τ : Nat->V):List (Nat×V)->Prop
 |[]=>True
 |p::r=>Fz F H (τ p.1) p.2/\Iy F H τ r
@[go_sem] theorem allFz_nil(F:Nat->Bool)(H:Heap)(τ : Nat->V):Iy F H τ []=True:=rfl
@[go_sem] theorem allFz_cons(F:Nat->Bool)(H:Heap)(τ : Nat->V)(p:Nat×V)(r:List (Nat×V)):Iy F H τ (p::r)=(Fz F H (τ p.1) p.2/\Iy F H τ r):=rfl
def Lh(F:Nat->Bool)(H:Heap):List (Nat×AObj)->Prop
 |[]=>True
 |p::r=>FzO F H p.1 p.2/\Lh F H r
@[go_sem] theorem Zv(F:Nat->Bool)(H:Heap):Lh F H []=True:=rfl
@[go_sem] theorem Zt(F:Nat->Bool)(H:Heap)(p:Nat×AObj)(r:List (Nat×AObj)):Lh F H (p::r)=(FzO F H p.1 p.2/\Lh F H r):=rfl
theorem Jq{F:Nat->Bool}{H:Heap}{τ : Nat->V}(t:Nat):∀ {l:List (Nat×V)},Iy F H τ l->Z5 La l t=.top\/Fz F H (τ t) (Z5 La l t)
 |[],_=>.inl rfl
 |p::r,h=>by
  simp only[Z5,Ya]
  split
  rename_i e;subst e;exact .inr h.1;exact Jq t h.2
theorem Dc{F:Nat->Bool}{H:Heap}(o:Nat):∀ {m:List (Nat×AObj)},Lh F H m->FzO F H o (Z5 Zj m o)
 |[],_=>trivial
 |p::r,h=>by
  simp only[Z5,Ya]
  split
  rename_i e;subst e;exact h.1;exact Dc o h.2
theorem Zl(F:Nat->Bool){τ : Nat->V}{H:Heap}{l:List (Nat×V)}{m:List (Nat×AObj)}(h:Iy F H τ l)(a:Lh F H m):Weak E ⟨τ,H⟩ (Hs.st l m):=
 Tc F (λt=>Jq t h) (λo=>Dc o a)
theorem Zb{F:Nat->Bool}{H:Heap}{v:V}:Fz F H v v:=Fz.same v
end
end Go.Hs
