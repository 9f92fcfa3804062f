/- A part. No condition. -/
import Derived.Test.YtjplgaebbfabnaaGreatDoorP23
set_option linter.all false
namespace Go.Hs
section
variable{P:Program}{E:Ent}
theorem Zir(g:Col->Col)(c:Col)(v:V):(V.view c v).recol g=.view (g c) (v.recol g):=rfl
theorem Zjr(g:Col->Col)(a:Fn)(l m:List V):(V.func a l m).recol g=.func a (l.map (V.recol g)) (m.map (V.recol g)):=by simp[V.recol,Yq]
theorem Ln(g:Col->Col)(o k off:Nat):(V.ptr o k off).recol g=.ptr o k off:=rfl
theorem So{α : Type}(h:Col->Col)(o g m:Nat)(l:List α):(grown o g m l).recol h=grown o g m l:=by cases l<;>rfl
theorem recol_cells(h:Col->Col)(c:Col)(g fz:Nat)(cs:List V):(AObj.cells c g fz cs).recol h=.cells (h c) g fz (cs.map (V.recol h)):=by simp[AObj.recol,Yq]
theorem Ij(c:Col):c.ent.ent=c.ent:=by cases c<;>rfl
theorem Zqba:Col.old.ent=.old:=rfl
theorem Zsba:Col.any.ent=.any:=rfl
attribute[go_sem]Zir Zjr Ln So recol_cells Ij Zqba Zsba
theorem Z8j{l:List V}{x:V}:x∈flat l↔∃ v∈l,x∈v.cells:=by simp[flat]
theorem Uu{α : Type}{c:Col}{m:Nat}{f : α -> V}(e:∀ x,∀ y∈(f x).cells,y.Im)(s:Sl α):(Za c m f s).Im:=by
 cases s with
 |nil=>exact .nils
 |mk b l=>
  refine .slice _ _ _ _ λx a=>?_;obtain⟨v,d,a⟩:=Z8j.1 a
  grind
theorem Ra{c:Col}{k:IntKind}(s:Sl Int):(Za c 1 (V.int k) s).Im:=Uu (λx y a=>by simp[V.cells]at a;subst a;exact .int _ _) s
theorem Xf{H:Heap}{v a:V}(h:v.Im)(b:v.recol Col.ent=a):Rd H v a:=.base _ _ ⟨h,b.symm⟩
theorem Z6a{α : Type}{m:Nat}{f : α -> V}(a:∀ x,(f x).cells.length=m)(l:List α){off n:Nat}(h:off+n<=l.length):
  ((flat (l.map f)).drop (off*m)).take (n*m)=flat (((l.drop off).take n).map f):=by
 have b:l=l.take off++((l.drop off).take n++(l.drop off).drop n):=by rw[List.take_append_drop,List.take_append_drop]
 have d:(flat ((l.take off).map f)).length=off*m:=by rw[Xu a,List.length_take,Nat.min_eq_left zo]
 have c:(flat (((l.drop off).take n).map f)).length=n*m:=by rw[Xu a,List.length_take,List.length_drop,Nat.min_eq_left zo]
 have e:flat (l.map f)=flat ((l.take off).map f)++(flat (((l.drop off).take n).map f)++flat (((l.drop off).drop n).map f)):=by
  rw[<- U6,<- U6,<- List.map_append,<- List.map_append,<- b]
 grind
theorem Rd.msl{α : Type}{H:Heap}{o g fz m off n:Nat}{c:Col}{f f' : α -> V}{l:List α}(A:H o=.cells c g fz (flat (l.map f)))(k:∀ x,(f x).cells.length=m)
  (p:∀ x,∀ y∈(f x).cells,y.Im) (e:∀ x,(f x).recol Col.ent=f' x) (b:off+n<=l.length):
  Rd H (.msl o g (off*m) n m) (.slice .old false m (((l.drop off).take n).map f')):=by
 have q:((l.drop off).take n).length=n:=by grind
 have d:((l.drop off).take n).map f'=(((l.drop off).take n).map f).map (V.recol Col.ent):=by
  rw[List.map_map];exact List.map_congr_left λx _=>(e x).symm
 have j:off*m+n*m<=l.length*m:=by rw[<- Nat.add_mul];exact Nat.mul_le_mul_right m b
 refine Cv.msl (col:=λ_=>.old) o g (off*m) n m c fz _ _ rfl A (by grind) ?_ (by rw[Xu k];exact j) λi t s=>?_;intro v h;obtain⟨x,_,rfl⟩:=List.mem_map.1 h;rw[<- e x,Vw,List.length_map,k]
 have u:flat (((l.drop off).take n).map f')=(((flat (l.map f)).drop (off*m)).take (n*m)).map (V.recol Col.ent):=by
  rw[d,Rj,Z6a k l b]
 have B:(flat (((l.drop off).take n).map f'))[i]=((flat (l.map f))[off*m+i]).recol Col.ent:=by
  have r:(flat (((l.drop off).take n).map f'))[i]?=some (((flat (l.map f))[off*m+i]).recol Col.ent):=by
   rw[u,List.getElem?_map,List.getElem?_take]
   have z:i<n*m:=by
    rw[u,List.length_map,List.length_take]at s;omega
   rw[if_pos z,List.getElem?_drop,List.getElem?_eq_getElem t];rfl
  rw[List.getElem?_eq_getElem s]at r;exact Option.some.inj r
 rw[B];refine .base _ _ ⟨?_,rfl⟩;obtain⟨v,h,w⟩:=Z8j.1 (List.getElem_mem t);obtain⟨a,_,rfl⟩:=List.mem_map.1 h;exact p a _ w
theorem I0{α : Type}{H:Heap}{o g m:Nat}{f f' : α -> V}{l:List α}(d:H o=Yb g f l)(c:∀ x,(f x).cells.length=m)
  (b:∀ x,∀ y∈(f x).cells,y.Im) (a:∀ x,(f x).recol Col.ent=f' x):Rd H (grown o g m l) (Za .old m f' (Zd l)):=by
 cases l with
 |nil=>exact Xf .nils rfl
 |cons x r=>
  have:=Rd.msl (l:=x::r) (off:=0) (n:=(x::r).length) (o:=o) (g:=g) d c b a zo;rw[List.drop_zero,List.take_length,Nat.zero_mul]at this;exact this
theorem Rd.ptr{H:Heap}{o g fz:Nat}{c:Col}{v a:V}(e:H o=.cells c g fz v.cells)(b:∀ y∈v.cells,y.Im)(d:v.recol Col.ent=a):Rd H (.ptr o g 0) (.view .old a):=by
 have k:a.cells=v.cells.map (V.recol Col.ent):=by rw[<- d,Vw]
 have j:a.cells.length=v.cells.length:=by grind
 refine Cv.ptr (col:=λ_=>.old) o g 0 c fz v.cells a rfl e zo λi f l=>?_
 have h:a.cells[i]=(v.cells[0+i]).recol Col.ent:=by
  grind
 rw[h];exact .base _ _ ⟨b _ (List.getElem_mem f),rfl⟩
theorem Rd.func{H:Heap}{d:Fn}{b a:List V}(e:b.length=a.length)(c:∀ i (h1:i<b.length) (h2:i<a.length),Rd H b[i] a[i]):Rd H (.func d [] b) (.func d [] a):=
 Cv.func d [] b [] a rfl e (λi h1=>by grind) c
def RdL(H:Heap):List V->List V->Prop
 |[],[]=>True
 |a::r,b::t=>Rd H a b/\RdL H r t
 |_,_=>False
theorem RdL.get{H:Heap}:∀ {l r:List V},RdL H l r->r.length=l.length/\∀ i (h1:i<l.length) (h2:i<r.length),Rd H l[i] r[i]
 |[],[],_=>⟨rfl,λi h1=>by grind⟩
 |[],_::_,h=>h.elim
 |_::_,[],h=>h.elim
 |a::l,b::r,h=>by
  obtain⟨h1,h2⟩:=RdL.get h.2;refine⟨by grind,λi k1 k2=>?_⟩
  cases i with
  |zero=>exact h.1
  |succ i=>grind
theorem Z4p{H:Heap}{c:Fn}{b a:List V}(h:RdL H b a):Rd H (.func c [] b) (.func c [] a):=Rd.func h.get.1.symm h.get.2
theorem BorC.of{G:Nat->V}{f:FuncId}{args:List V}{H:Heap}{v:V}(args':List V)(a:Z7 P f=true)(h:RdL H args args')(b:Spec P G f args' Zj (λv' _=>v'.Fl/\v'=v)):BorC P G f args H v:=
 λd _ c=>I5 d a h.get.1 h.get.2 (b.mono λ_ _ ⟨g,e⟩=>⟨g,by rw[e];exact c⟩)
theorem CallA.bor{G:Nat->V}(a:Y6 G){f:FuncId}{args:List V}{H:Heap}{K:V->Heap->Prop}(args':List V)(b:Z7 P f=true)(h:RdL H args args')
  (c:Spec P G f args' Zj (λv _=>v.Fl/\K v H)):CallA P G f args H K:=I5 a b h.get.1 h.get.2 c
theorem Fz.ptr{F:Nat->Bool}{H:Heap}{o g fz:Nat}{c:Col}{v:V}(b:F o=true)(a:H o=.cells c g fz v.cells):Fz F H (.ptr o g 0) (.view c v):=
 Cv.ptr (col:=id) o g 0 c fz v.cells v b a zo λi e d=>by
  simp only[Nat.zero_add];exact Zb
theorem Fz.func{F:Nat->Bool}{H:Heap}{c:Fn}{b a:List V}(h:FzL F H b a):Fz F H (.func c [] b) (.func c [] a):=
 Cv.func c [] b [] a rfl h.get.1.symm (λi d=>by grind) h.get.2
theorem AW.later{c:Code}{Q:Exit->AS->Prop}{s:AS}(h:AW P E c (λe s'=>∃ s'',Weak E s' s''/\Q e s'') s):AW P E c Q s:=
 λa w d=>wpIn_mono (h a w d) λ_ j w' f=>f.imp (λs' i ⟨s'',b,g⟩=>⟨s'',b j w' i,g⟩) λ_ h=>h
theorem Jr{H:Heap}(f:AObj->AObj)(o:Nat):∀ m:List (Nat×AObj),(∀ p∈m,f (H p.1)=p.2)->Z5 Zj m o=if m.any (·.1==o)then f (H o)else .dead
 |[],_=>by rfl
 |p::r,h=>by
  have a:=Jr f o r λq d=>h q (by grind);have c:=h p zS
  by_cases e:o=p.1
  subst e;simp[Z5,c]
  have b:(p::r).any (·.1==o)=r.any (·.1==o):=by
   grind
  rw[b,<- a];simp only[Z5,Ya,if_neg e]
theorem Jp{H H':Heap}(f:AObj->AObj)(o:Nat):∀ m:List (Nat×AObj),Z5 H (m.map λp=>(p.1,f (H' p.1))) o=if m.any (·.1==o)then f (H' o)else H o
 |[]=>by rfl
 |p::r=>by
  have a:=Jp (H:=H) (H':=H') f o r
  by_cases e:o=p.1
  subst e;simp[Z5]
  have b:(p::r).any (·.1==o)=r.any (·.1==o):=by
   grind
  rw[b,<- a];simp only[List.map_cons,Z5,Ya,if_neg e]
theorem CallA.hand{G:Nat->V}(a:Y6 G){f:FuncId}{args:List V}{H:Heap}{K:V->Heap->Prop}(m:List (Nat×AObj))(b:Z7 P f=true)(c:∀ p∈m,(H p.1).recol Col.ent=p.2)
  (h:Spec P G f (args.map (V.recol Col.ent)) (Z5 Zj m) (λv H'=>K (v.recol Col.bk) (Z5 H (m.map λp=>(p.1,(H' p.1).recol Col.bk))))):CallA P G f args H K:=by
 refine Zlb a (λo=>m.any (·.1==o)) b ?_
 have e:(λo=>if m.any (·.1==o)then(H o).recol Col.ent else .dead)=Z5 Zj m:=by
  funext o
  exact(Jr (AObj.recol Col.ent) o m c).symm
 rw[e];refine h.mono λv H' d=>⟨_,λo=>?_,d⟩;rw[Jp (AObj.recol Col.bk) o m]
 grind
def grownC{α : Type}(c:Col)(g:Nat)(f : α -> V)(l:List α):AObj:=match l with|[]=>.dead|_::_=>.cells c g 0 (flat (l.map f))
theorem C5{α : Type}(c:Col)(g:Nat)(f : α -> V):grownC c g f []=.dead:=rfl
theorem Ge{α : Type}(c:Col)(g:Nat)(f : α -> V){l:List α}(h:l≠[]):grownC c g f l=.cells c g 0 (flat (l.map f)):=by cases l with|nil=>grind|cons=>rfl
theorem Z8c{α : Type}(h:Col->Col)(c:Col)(g:Nat)(f f' : α -> V)(a:∀ x,(f x).recol h=f' x)(l:List α):(grownC c g f l).recol h=grownC (h c) g f' l:=by
 cases l with
 |nil=>rfl
 |cons x r=>
  simp only[grownC,AObj.recol,Yq];rw[<- Rj,List.map_map]
  congr 2
  simp_all
theorem Zau{ops:Array Oper}{Q:AS->Prop}{rest:List Oper}{τ : Nat->V}{H:Heap}{α : Type}{f : α -> V}{m bytes:Nat}(i:∀ x,(f x).cells.length=m){e g:Nat}{l l2:List α}{xc:List V}{n:Nat}(o:n=l2.length)(j:xc=flat (l2.map f)){ob:AObj}
  (c:ob=obS H (grown (E.q+e) g m l)) (d:H (E.q+e)=grownC .any g f l) (k:U3 bytes (l.length+l2.length))
  (h:∀ c2 g2,Yt P E ops Q rest ⟨Ya τ e (grown (E.q+e) g2 m (l++l2)),Ya H (E.q+e) (grownC c2 g2 f (l++l2))⟩):
  Bu P E ops Q rest e τ H m bytes (grown (E.q+e) g m l) (some (n,xc)) ob:=by
 subst c o j
 cases l with
 |nil=>
  simp only[C5,List.nil_append]at *;refine⟨by grind,λp=>?_,λp g2=>?_⟩
  have:l2=[]:=by grind
  subst this;have:=h .new 0;rwa [C5,Yp H _ _ d]at this
  have a:l2≠[]:=by grind
  have:=h .new g2;rwa [X8 _ _ _ a,Ge _ _ _ a]at this
 |cons x r=>
  have a:x::r≠[]:=zS;have b:(x::r)++l2≠[]:=zS;rw[X8 _ _ _ a]at *;rw[Ge _ _ _ a]at d;rw[Et,d];refine⟨rfl,k,rfl,by rw[Xu i];omega,zo,λg2=>?_⟩;have:=h .any g2;rw[X8 _ _ _ b]at this
  have s:((flat (List.map f (x::r))).drop 0).take ((x::r).length*m)=flat (List.map f (x::r)):=by
   rw[List.drop_zero,<- Xu i,List.take_length]
  rw[s,<- U6,<- List.map_append];rwa [List.length_append]at this
theorem Z5w{α : Type}{F:Nat->Bool}{H:Heap}{o g:Nat}{c:Col}{f : α -> V}{l:List α}(b:F o=false)(a:H o=grownC c g f l):FzO F H o (grownC .any g f l):=by
 cases l with
 |nil=>trivial
 |cons x r=>exact⟨c,0,_,a,.inr rfl,Nat.le_refl _,by grind,rfl,λi e d=>Zb⟩
theorem Wf(F:Nat->Bool){G:Nat->V}{f:FuncId}{args:List V}{H:Heap}{K:V->Heap->Prop}(args':List V)(m:List (Nat×AObj))(a:FzL F H args args')(b:Lh F H m)(h:CallA P G f args' (Z5 Zj m) K):CallA P G f args H K:=
 Kc F a.get.1 a.get.2 (λo=>Dc o b) h
end
section
variable{P:Program}
def zc(cs ch:Col)(hd:Bool):Col:=if hd then ch else cs
end
end Go.Hs
