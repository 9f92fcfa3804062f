/- A part. No condition. -/
import Derived.Test.YtoahejkahaimnaaGreatDoorP24
set_option linter.all false
namespace Go.Hs
section
variable{P:Program}{E:Ent}
theorem Zq8(g:Col->Col)(c:Col)(v:V):(V.view c v).recol g=.view (g c) (v.recol g):=rfl
theorem Zr8(g:Col->Col)(fn:Fn)(l m:List V):(V.func fn l m).recol g=.func fn (l.map (V.recol g)) (m.map (V.recol g)):=by simp[V.recol,Z7]
theorem Zvj(g:Col->Col)(o k off:Nat):(V.ptr o k off).recol g=.ptr o k off:=rfl
theorem Zxd{α : Type}(h:Col->Col)(o g m:Nat)(l:List α):(grown o g m l).recol h=grown o g m l:=by cases l<;>rfl
theorem recol_cells(h:Col->Col)(c:Col)(g fz:Nat)(cs:List V):(AObj.cells c g fz cs).recol h=.cells (h c) g fz (cs.map (V.recol h)):=by simp[AObj.recol,Z7]
theorem Zuo(c:Col):c.ent.ent=c.ent:=by cases c<;>rfl
theorem ent_old:Col.old.ent=.old:=rfl
theorem ent_any:Col.any.ent=.any:=rfl
attribute[go_sem]Zq8 Zr8 Zvj Zxd recol_cells Zuo ent_old ent_any
theorem Z6s{l:List V}{x:V}:x∈flat l↔∃ v∈l,x∈v.cells:=by simp[flat]
theorem Zud{α : Type}{c:Col}{m:Nat}{f : α -> V}(hf:∀ x,∀ y∈(f x).cells,y.Im)(s:Sl α):(Za c m f s).Im:=by
 cases s with
 |nil=>exact .nils
 |mk b l=>
  refine .slice _ _ _ _ λx hx=>?_;obtain⟨v,hv,hx⟩:=Z6s.1 hx;obtain⟨a,_,rfl⟩:=List.mem_map.1 hv;exact hf a x hx
theorem Zzf{c:Col}{k:IntKind}(s:Sl Int):(Za c 1 (V.int k) s).Im:=Zud (λx y hy=>by simp[V.cells]at hy;subst hy;exact .int _ _) s
theorem Zta{H:Heap}{v v':V}(h:v.Im)(h':v.recol Col.ent=v'):Rd H v v':=.base _ _ ⟨h,h'.symm⟩
theorem Zov{α : Type}{m:Nat}{f : α -> V}(hf:∀ x,(f x).cells.length=m)(l:List α){off n:Nat}(h:off+n<=l.length):
  ((flat (l.map f)).drop (off*m)).take (n*m)=flat (((l.drop off).take n).map f):=by
 have e1:l=l.take off++((l.drop off).take n++(l.drop off).drop n):=by rw[List.take_append_drop,List.take_append_drop]
 have l1:(flat ((l.take off).map f)).length=off*m:=by rw[Zjb hf,List.length_take,Nat.min_eq_left zo]
 have l2:(flat (((l.drop off).take n).map f)).length=n*m:=by rw[Zjb hf,List.length_take,List.length_drop,Nat.min_eq_left zo]
 have e2:flat (l.map f)=flat ((l.take off).map f)++(flat (((l.drop off).take n).map f)++flat (((l.drop off).drop n).map f)):=by
  rw[<- Zee,<- Zee,<- List.map_append,<- List.map_append,<- e1]
 rw[e2,<- l1,List.drop_left,<- l2,List.take_left]
theorem Rd.msl{α : Type}{H:Heap}{o g fz m off n:Nat}{c:Col}{f f' : α -> V}{l:List α}(hH:H o=.cells c g fz (flat (l.map f)))(hf:∀ x,(f x).cells.length=m)
  (hIm:∀ x,∀ y∈(f x).cells,y.Im) (hf':∀ x,(f x).recol Col.ent=f' x) (hfit:off+n<=l.length):
  Rd H (.msl o g (off*m) n m) (.slice .old false m (((l.drop off).take n).map f')):=by
 have hlen:((l.drop off).take n).length=n:=by rw[List.length_take,List.length_drop,Nat.min_eq_left zo]
 have hmap:((l.drop off).take n).map f'=(((l.drop off).take n).map f).map (V.recol Col.ent):=by
  rw[List.map_map];exact List.map_congr_left λx _=>(hf' x).symm
 have hle:off*m+n*m<=l.length*m:=by rw[<- Nat.add_mul];exact Nat.mul_le_mul_right m hfit
 refine Cv.msl (col:=λ_=>.old) o g (off*m) n m c fz _ _ rfl hH (by rw[List.length_map,hlen]) ?_ (by rw[Zjb hf];exact hle) λi h1 h2=>?_;intro v hv;obtain⟨x,_,rfl⟩:=List.mem_map.1 hv;rw[<- hf' x,Zjc,List.length_map,hf]
 have e0:flat (((l.drop off).take n).map f')=(((flat (l.map f)).drop (off*m)).take (n*m)).map (V.recol Col.ent):=by
  rw[hmap,Zye,Zov hf l hfit]
 have e1:(flat (((l.drop off).take n).map f'))[i]=((flat (l.map f))[off*m+i]).recol Col.ent:=by
  have h3:(flat (((l.drop off).take n).map f'))[i]?=some (((flat (l.map f))[off*m+i]).recol Col.ent):=by
   rw[e0,List.getElem?_map,List.getElem?_take]
   have hi:i<n*m:=by
    rw[e0,List.length_map,List.length_take]at h2;omega
   rw[if_pos hi,List.getElem?_drop,List.getElem?_eq_getElem h1];rfl
  rw[List.getElem?_eq_getElem h2]at h3;exact Option.some.inj h3
 rw[e1];refine .base _ _ ⟨?_,rfl⟩;obtain⟨v,hv,hx⟩:=Z6s.1 (List.getElem_mem h1);obtain⟨a,_,rfl⟩:=List.mem_map.1 hv;exact hIm a _ hx
theorem Zym{α : Type}{H:Heap}{o g m:Nat}{f f' : α -> V}{l:List α}(hH:H o=Zca g f l)(hf:∀ x,(f x).cells.length=m)
  (hIm:∀ x,∀ y∈(f x).cells,y.Im) (hf':∀ x,(f x).recol Col.ent=f' x):Rd H (grown o g m l) (Za .old m f' (Zb l)):=by
 cases l with
 |nil=>exact Zta .nils rfl
 |cons x r=>
  have:=Rd.msl (l:=x::r) (off:=0) (n:=(x::r).length) (o:=o) (g:=g) hH hf hIm hf' zo;rw[List.drop_zero,List.take_length,Nat.zero_mul]at this;exact this
theorem Rd.ptr{H:Heap}{o g fz:Nat}{c:Col}{v v':V}(hH:H o=.cells c g fz v.cells)(hIm:∀ y∈v.cells,y.Im)(hv:v.recol Col.ent=v'):Rd H (.ptr o g 0) (.view .old v'):=by
 have hc:v'.cells=v.cells.map (V.recol Col.ent):=by rw[<- hv,Zjc]
 have hl:v'.cells.length=v.cells.length:=by rw[hc,List.length_map]
 refine Cv.ptr (col:=λ_=>.old) o g 0 c fz v.cells v' rfl hH zo λi h1 h2=>?_
 have e1:v'.cells[i]=(v.cells[0+i]).recol Col.ent:=by
  have h3:v'.cells[i]?=some ((v.cells[0+i]).recol Col.ent):=by rw[hc,List.getElem?_map,List.getElem?_eq_getElem (show i<v.cells.length by omega)];simp
  rw[List.getElem?_eq_getElem h2]at h3;exact Option.some.inj h3
 rw[e1];exact .base _ _ ⟨hIm _ (List.getElem_mem h1),rfl⟩
theorem Rd.func{H:Heap}{fn:Fn}{ys ys':List V}(hy:ys.length=ys'.length)(hyr:∀ i (h1:i<ys.length) (h2:i<ys'.length),Rd H ys[i] ys'[i]):Rd H (.func fn [] ys) (.func fn [] ys'):=
 Cv.func fn [] ys [] ys' rfl hy (λi h1=>by simp at h1) hyr
def RdL(H:Heap):List V->List V->Prop
 |[],[]=>True
 |a::r,b::t=>Rd H a b/\RdL H r t
 |_,_=>False
theorem RdL.get{H:Heap}:∀ {l r:List V},RdL H l r->r.length=l.length/\∀ i (h1:i<l.length) (h2:i<r.length),Rd H l[i] r[i]
 |[],[],_=>⟨rfl,λi h1=>by simp at h1⟩
 |[],_::_,h=>h.elim
 |_::_,[],h=>h.elim
 |a::l,b::r,h=>by
  obtain⟨h1,h2⟩:=RdL.get h.2;refine⟨by simp[h1],λi k1 k2=>?_⟩
  cases i with
  |zero=>exact h.1
  |succ i=>exact h2 i (zu k1) (zu k2)
theorem Zh7{H:Heap}{fn:Fn}{ys ys':List V}(h:RdL H ys ys'):Rd H (.func fn [] ys) (.func fn [] ys'):=Rd.func h.get.1.symm h.get.2
theorem BorC.of{G:Nat->V}{f:FuncId}{args:List V}{H:Heap}{v:V}(args':List V)(hen:Z2 P f=true)(h:RdL H args args')(hs:Spec P G f args' Zk (λv' _=>v'.Fl/\v'=v)):BorC P G f args H v:=
 ⟨hen,args',h.get.1,h.get.2,hs⟩
theorem CallA.bor{G:Nat->V}(hGok:GOk G){f:FuncId}{args:List V}{H:Heap}{K:V->Heap->Prop}(args':List V)(hen:Z2 P f=true)(h:RdL H args args')
  (hs:Spec P G f args' Zk (λv _=>v.Fl/\K v H)):CallA P G f args H K:=Z6l hGok hen h.get.1 h.get.2 hs
theorem Fz.ptr{F:Nat->Bool}{H:Heap}{o g fz:Nat}{c:Col}{v:V}(hF:F o=true)(hH:H o=.cells c g fz v.cells):Fz F H (.ptr o g 0) (.view c v):=
 Cv.ptr (col:=id) o g 0 c fz v.cells v hF hH zo λi h1 h2=>by
  simp only[Nat.zero_add];exact Fz.same _
theorem Fz.func{F:Nat->Bool}{H:Heap}{fn:Fn}{ys ys':List V}(h:FzL F H ys ys'):Fz F H (.func fn [] ys) (.func fn [] ys'):=
 Cv.func fn [] ys [] ys' rfl h.get.1.symm (λi h1=>by simp at h1) h.get.2
theorem AW.later{c:Code}{Q:Exit->AS->Prop}{s:AS}(h:AW P E c (λe s'=>∃ s'',Weak E s' s''/\Q e s'') s):AW P E c Q s:=
 λa w hs=>wpIn_mono (h a w hs) λ_ a' w' hp=>hp.imp (λs' h1 ⟨s'',hw,h2⟩=>⟨s'',hw a' w' h1,h2⟩) λ_ h=>h
theorem Zjm{H:Heap}(f:AObj->AObj)(o:Nat):∀ m:List (Nat×AObj),(∀ p∈m,f (H p.1)=p.2)->Zfa Zk m o=if m.any (·.1==o)then f (H o)else .dead
 |[],_=>by simp[Zfa,Zk]
 |p::r,h=>by
  have ih:=Zjm f o r λq hq=>h q (by simp[hq]);have h0:=h p zS
  by_cases e:o=p.1
  subst e;simp[Zfa,upd,h0]
  have h1:(p::r).any (·.1==o)=r.any (·.1==o):=by
   have:(p.1==o)=false:=by simpa using λh=>e h.symm
   rw[List.any_cons,this,Bool.false_or]
  rw[h1,<- ih];simp only[Zfa,upd,if_neg e]
theorem Zim{H H':Heap}(f:AObj->AObj)(o:Nat):∀ m:List (Nat×AObj),Zfa H (m.map λp=>(p.1,f (H' p.1))) o=if m.any (·.1==o)then f (H' o)else H o
 |[]=>by simp[Zfa]
 |p::r=>by
  have ih:=Zim (H:=H) (H':=H') f o r
  by_cases e:o=p.1
  subst e;simp[Zfa,upd]
  have h1:(p::r).any (·.1==o)=r.any (·.1==o):=by
   have:(p.1==o)=false:=by simpa using λh=>e h.symm
   rw[List.any_cons,this,Bool.false_or]
  rw[h1,<- ih];simp only[List.map_cons,Zfa,upd,if_neg e]
theorem CallA.hand{G:Nat->V}(hGok:GOk G){f:FuncId}{args:List V}{H:Heap}{K:V->Heap->Prop}(m:List (Nat×AObj))(hen:Z2 P f=true)(hm:∀ p∈m,(H p.1).recol Col.ent=p.2)
  (h:Spec P G f (args.map (V.recol Col.ent)) (Zfa Zk m) (λv H'=>K (v.recol Col.bk) (Zfa H (m.map λp=>(p.1,(H' p.1).recol Col.bk))))):CallA P G f args H K:=by
 refine Z5y hGok (λo=>m.any (·.1==o)) hen ?_
 have e:(λo=>if m.any (·.1==o)then(H o).recol Col.ent else .dead)=Zfa Zk m:=by
  funext o
  exact(Zjm (AObj.recol Col.ent) o m hm).symm
 rw[e];refine h.mono λv H' hk=>⟨_,λo=>?_,hk⟩;rw[Zim (AObj.recol Col.bk) o m]
 by_cases ho:m.any (·.1==o)=true
 rw[if_pos ho];exact .inr (.inl rfl);rw[if_neg ho];exact .inr (.inr ⟨Bool.eq_false_iff.2 ho,rfl⟩)
def grownC{α : Type}(c:Col)(g:Nat)(f : α -> V)(l:List α):AObj:=match l with|[]=>.dead|_::_=>.cells c g 0 (flat (l.map f))
theorem Zar{α : Type}(c:Col)(g:Nat)(f : α -> V):grownC c g f []=.dead:=rfl
theorem Z9j{α : Type}(c:Col)(g:Nat)(f : α -> V){l:List α}(h:l≠[]):grownC c g f l=.cells c g 0 (flat (l.map f)):=by cases l with|nil=>exact absurd rfl h|cons=>rfl
theorem Zgv{α : Type}(h:Col->Col)(c:Col)(g:Nat)(f f' : α -> V)(hf:∀ x,(f x).recol h=f' x)(l:List α):(grownC c g f l).recol h=grownC (h c) g f' l:=by
 cases l with
 |nil=>rfl
 |cons x r=>
  simp only[grownC,AObj.recol,Z7];rw[<- Zye,List.map_map]
  congr 2
  exact List.map_congr_left λy _=>hf y
theorem Z1aa{ops:Array Oper}{Q:AS->Prop}{rest:List Oper}{τ : Nat->V}{H:Heap}{α : Type}{f : α -> V}{m bytes:Nat}(hf:∀ x,(f x).cells.length=m){e g:Nat}{l l2:List α}{xc:List V}{n:Nat}(hn:n=l2.length)(hx:xc=flat (l2.map f)){ob:AObj}
  (hob:ob=obS H (grown (E.q+e) g m l)) (hH:H (E.q+e)=grownC .any g f l) (hr:Zhe bytes (l.length+l2.length))
  (h:∀ c2 g2,Zsa P E ops Q rest ⟨upd τ e (grown (E.q+e) g2 m (l++l2)),upd H (E.q+e) (grownC c2 g2 f (l++l2))⟩):
  appE P E ops Q rest e τ H m bytes (grown (E.q+e) g m l) (some (n,xc)) ob:=by
 subst hob hn hx
 cases l with
 |nil=>
  simp only[Znc,Zar,List.nil_append]at *;rw[Zmk];refine⟨zu hr,λh0=>?_,λh0 g2=>?_⟩;have:l2=[]:=zu h0;subst this;have:=h .new 0;rwa [Znc,Zar,Zea H _ _ hH]at this;have hne:l2≠[]:=zu h0;have:=h .new g2;rwa [Z2a _ _ _ hne,Z9j _ _ _ hne]at this
 |cons x r=>
  have hne:x::r≠[]:=zS;have hne':(x::r)++l2≠[]:=zS;rw[Z2a _ _ _ hne]at *;rw[Z9j _ _ _ hne]at hH;rw[Zrs,hH,Zwm];refine⟨rfl,hr,rfl,by rw[Zjb hf];omega,zo,λg2=>?_⟩;have:=h .any g2;rw[Z2a _ _ _ hne',Z9j _ _ _ hne']at this
  have e1:((flat (List.map f (x::r))).drop 0).take ((x::r).length*m)=flat (List.map f (x::r)):=by
   rw[List.drop_zero,<- Zjb hf,List.take_length]
  rw[e1,<- Zee,<- List.map_append];rwa [List.length_append]at this
theorem Zbda{α : Type}{F:Nat->Bool}{H:Heap}{o g:Nat}{c:Col}{f : α -> V}{l:List α}(hF:F o=false)(hH:H o=grownC c g f l):FzO F H o (grownC .any g f l):=by
 cases l with
 |nil=>trivial
 |cons x r=>exact⟨c,0,_,hH,.inr rfl,Nat.le_refl _,by rw[hF];simp,rfl,λi h1 h2=>Fz.same _⟩
theorem Fz.grownC{α : Type}{F:Nat->Bool}{H:Heap}{o g m:Nat}{c:Col}{f : α -> V}{l:List α}(hF:F o=true)(hH:H o=grownC c g f l)(hf:∀ x,(f x).cells.length=m):
  Fz F H (Hs.grown o g m l) (Za c m f (Zb l)):=by
 cases l with
 |nil=>exact Fz.same _
 |cons x r=>exact Z2b hF hH hf
theorem Z8a(F:Nat->Bool){G:Nat->V}{f:FuncId}{args:List V}{H:Heap}{K:V->Heap->Prop}(args':List V)(m:List (Nat×AObj))(hA:FzL F H args args')(hm:Z5l F H m)(h:CallA P G f args' (Zfa Zk m) K):CallA P G f args H K:=
 Zrk F hA.get.1 hA.get.2 (λo=>Z6r o hm) h
end
end Go.Hs
