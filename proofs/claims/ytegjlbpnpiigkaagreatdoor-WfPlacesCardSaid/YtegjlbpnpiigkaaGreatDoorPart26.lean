/- Part 26 of a proof; no condition. -/
import Derived.Test.YtegjlbpnpiigkaaGreatDoorPart25
set_option linter.unusedSimpArgs false
set_option linter.unusedVariables false
section
namespace Go.Hs
section
variable {P:Program} {E:Ent}
@[go_sem] theorem recol_view (g:Col→Col) (c:Col) (v:V):(V.view c v).recol g = .view (g c) (v.recol g):=rfl
@[go_sem] theorem recol_func (g:Col→Col) (fn:Fn) (l m:List V):(V.func fn l m).recol g = .func fn (l.map (V.recol g)) (m.map (V.recol g)):=by simp [V.recol,Z3]
@[go_sem] theorem Z5j (g:Col→Col) (o k off:Nat):(V.ptr o k off).recol g = .ptr o k off:=rfl
@[go_sem] theorem Z6e {α : Type} (h:Col→Col) (o g m:Nat) (l:List α):(grown o g m l).recol h=grown o g m l:=by cases l<;>rfl
@[go_sem] theorem recol_cells (h:Col→Col) (c:Col) (g fz:Nat) (cs:List V):(AObj.cells c g fz cs).recol h = .cells (h c) g fz (cs.map (V.recol h)):=by simp [AObj.recol,Z3]
@[go_sem] theorem Z3r (c:Col):c.ent.ent=c.ent:=by cases c<;>rfl
@[go_sem] theorem ent_old:Col.old.ent = .old:=rfl
@[go_sem] theorem ent_any:Col.any.ent = .any:=rfl
theorem Z2r {l:List V} {x:V}:x∈flat l ↔ ∃ v∈l,x∈v.cells:=by simp [flat]
theorem Z3c {α : Type} {c:Col} {m:Nat} {f : α → V} (hf:∀ x,∀ y∈(f x).cells,y.Im) (s:Sl α):(Zb c m f s).Im:=by
 cases s with
 | nil=>exact .nils
 | mk b l =>
  refine .slice _ _ _ _ fun x hx=>?_;obtain ⟨v,hv,hx⟩:=Z2r.1 hx;obtain ⟨a,_,rfl⟩:=List.mem_map.1 hv;exact hf a x hx
theorem Z3a {H:Heap} {v v':V} (h:v.Im) (h':v.recol Col.ent=v'):Rd H v v' := .base _ _ ⟨h,h'.symm⟩
theorem Z93 {α : Type} {m:Nat} {f : α → V} (hf:∀ x,(f x).cells.length=m) (l:List α) {off n:Nat} (h:off+n≤l.length) :
  ((flat (l.map f)).drop (off * m)).take (n * m)=flat (((l.drop off).take n).map f):=by
 have e1:l=l.take off++((l.drop off).take n++(l.drop off).drop n):=by rw [List.take_append_drop,List.take_append_drop]
 have l1:(flat ((l.take off).map f)).length=off * m:=by rw [Zsc hf,List.length_take,Nat.min_eq_left (by omega)]
 have l2:(flat (((l.drop off).take n).map f)).length=n * m:=by rw [Zsc hf,List.length_take,List.length_drop,Nat.min_eq_left (by omega)]
 have e2:flat (l.map f)=flat ((l.take off).map f)++(flat (((l.drop off).take n).map f)++flat (((l.drop off).drop n).map f)):=by
  rw [← Zyg,← Zyg,← List.map_append,← List.map_append,← e1]
 rw [e2,← l1,List.drop_left,← l2,List.take_left]
theorem Rd.msl {α : Type} {H:Heap} {o g fz m off n:Nat} {c:Col} {f f' : α → V} {l:List α} (hH:H o = .cells c g fz (flat (l.map f))) (hf:∀ x,(f x).cells.length=m)
  (hIm:∀ x,∀ y∈(f x).cells,y.Im) (hf':∀ x,(f x).recol Col.ent=f' x) (hfit:off+n≤l.length) :
  Rd H (.msl o g (off * m) n m) (.slice .old false m (((l.drop off).take n).map f')):=by
 have hlen:((l.drop off).take n).length=n:=by rw [List.length_take,List.length_drop,Nat.min_eq_left (by omega)]
 have hmap:((l.drop off).take n).map f'=(((l.drop off).take n).map f).map (V.recol Col.ent):=by
  rw [List.map_map];exact List.map_congr_left fun x _=>(hf' x).symm
 have hle:off * m+n * m≤l.length * m:=by rw [← Nat.add_mul];exact Nat.mul_le_mul_right m hfit
 refine Cv.msl (col:=fun _ => .old) o g (off * m) n m c fz _ _ rfl hH (by rw [List.length_map,hlen]) ?_ (by rw [Zsc hf];exact hle) fun i h1 h2=>?_
 ·intro v hv
  obtain ⟨x,_,rfl⟩:=List.mem_map.1 hv;rw [← hf' x,Zic,List.length_map,hf]
 ·have e0:flat (((l.drop off).take n).map f')=(((flat (l.map f)).drop (off * m)).take (n * m)).map (V.recol Col.ent):=by
   rw [hmap,Zwe,Z93 hf l hfit]
  have e1:(flat (((l.drop off).take n).map f'))[i]=((flat (l.map f))[off * m+i]).recol Col.ent:=by
   have h3:(flat (((l.drop off).take n).map f'))[i]? = some (((flat (l.map f))[off * m+i]).recol Col.ent):=by
    rw [e0,List.getElem?_map,List.getElem?_take]
    have hi:i<n * m:=by
     rw [e0,List.length_map,List.length_take] at h2;omega
    rw [if_pos hi,List.getElem?_drop,List.getElem?_eq_getElem h1];rfl
   rw [List.getElem?_eq_getElem h2] at h3;exact Option.some.inj h3
  rw [e1];refine .base _ _ ⟨?_,rfl⟩;obtain ⟨v,hv,hx⟩:=Z2r.1 (List.getElem_mem h1);obtain ⟨a,_,rfl⟩:=List.mem_map.1 hv;exact hIm a _ hx
theorem Zis {α : Type} {H:Heap} {o g m:Nat} {f f' : α → V} {l:List α} (hH:H o=Zxa g f l) (hf:∀ x,(f x).cells.length=m)
  (hIm:∀ x,∀ y∈(f x).cells,y.Im) (hf':∀ x,(f x).recol Col.ent=f' x):Rd H (grown o g m l) (Zb .old m f' (Zm l)):=by
 cases l with
 | nil=>exact Z3a .nils rfl
 | cons x r =>
  have:=Rd.msl (l:=x::r) (off:=0) (n:=(x::r).length) (o:=o) (g:=g) hH hf hIm hf' (by omega);rw [List.drop_zero,List.take_length,Nat.zero_mul] at this;exact this
theorem Rd.ptr {H:Heap} {o g fz:Nat} {c:Col} {v v':V} (hH:H o = .cells c g fz v.cells) (hIm:∀ y∈v.cells,y.Im) (hv:v.recol Col.ent=v'):Rd H (.ptr o g 0) (.view .old v'):=by
 have hc:v'.cells=v.cells.map (V.recol Col.ent):=by rw [← hv,Zic]
 have hl:v'.cells.length=v.cells.length:=by rw [hc,List.length_map]
 refine Cv.ptr (col:=fun _ => .old) o g 0 c fz v.cells v' rfl hH (by omega) fun i h1 h2=>?_
 have e1:v'.cells[i]=(v.cells[0+i]).recol Col.ent:=by
  have h3:v'.cells[i]? = some ((v.cells[0+i]).recol Col.ent):=by rw [hc,List.getElem?_map,List.getElem?_eq_getElem (show i<v.cells.length by omega)];simp
  rw [List.getElem?_eq_getElem h2] at h3;exact Option.some.inj h3
 rw [e1];exact .base _ _ ⟨hIm _ (List.getElem_mem h1),rfl⟩
theorem Rd.func {H:Heap} {fn:Fn} {ys ys':List V} (hy:ys.length=ys'.length) (hyr:∀ i (h1:i<ys.length) (h2:i<ys'.length),Rd H ys[i] ys'[i]):Rd H (.func fn [] ys) (.func fn [] ys') :=
 Cv.func fn [] ys [] ys' rfl hy (fun i h1=>by simp at h1) hyr
def RdL (H:Heap):List V→List V→Prop
 | [],[]=>True
 | a::r,b::t=>Rd H a b∧RdL H r t
 | _,_=>False
theorem RdL.get {H:Heap}:∀ {l r:List V},RdL H l r→r.length=l.length∧∀ i (h1:i<l.length) (h2:i<r.length),Rd H l[i] r[i]
 | [],[],_=>⟨rfl,fun i h1=>by simp at h1⟩
 | [],_::_,h=>h.elim
 | _::_,[],h=>h.elim
 | a::l,b::r,h=>by
  obtain ⟨h1,h2⟩:=RdL.get h.2;refine ⟨by simp [h1],fun i k1 k2=>?_⟩
  cases i with
  | zero=>exact h.1
  | succ i=>exact h2 i (by simpa using k1) (by simpa using k2)
theorem Zfz {H:Heap} {fn:Fn} {ys ys':List V} (h:RdL H ys ys'):Rd H (.func fn [] ys) (.func fn [] ys'):=Rd.func h.get.1.symm h.get.2
theorem BorC.of {G:Nat→V} {f:FuncId} {args:List V} {H:Heap} {v:V} (args':List V) (hen:Zha P f=true) (h:RdL H args args') (hs:Spec P G f args' Zl (fun v' _=>v'.Fl∧v'=v)):BorC P G f args H v :=
 ⟨hen,args',h.get.1,h.get.2,hs⟩
theorem Zta {G:Nat→V} (hGok:GOk G) {f:FuncId} {args:List V} {H:Heap} {K:V→Heap→Prop} (args':List V) (hen:Zha P f=true) (h:RdL H args args')
  (hs:Spec P G f args' Zl (fun v _=>v.Fl∧K v H)):CallA P G f args H K:=Zlm hGok hen h.get.1 h.get.2 hs
theorem Fz.ptr {F:Nat→Bool} {H:Heap} {o g fz:Nat} {c:Col} {v:V} (hF:F o=true) (hH:H o = .cells c g fz v.cells):Fz F H (.ptr o g 0) (.view c v) :=
 Cv.ptr (col:=id) o g 0 c fz v.cells v hF hH (by omega) fun i h1 h2=>by
  simp only [Nat.zero_add];exact Zd _
theorem Fz.func {F:Nat→Bool} {H:Heap} {fn:Fn} {ys ys':List V} (h:FzL F H ys ys'):Fz F H (.func fn [] ys) (.func fn [] ys') :=
 Cv.func fn [] ys [] ys' rfl h.get.1.symm (fun i h1=>by simp at h1) h.get.2
theorem AW.later {c:Code} {Q:Exit→AS→Prop} {s:AS} (h:AW P E c (fun e s'=>∃ s'',Weak E s' s''∧Q e s'') s):AW P E c Q s :=
 fun a w hs=>wp_mono (h a w hs) fun _ a' w' hp=>hp.imp (fun s' h1 ⟨s'',hw,h2⟩=>⟨s'',hw a' w' h1,h2⟩) fun _ h=>h
theorem Zwm {H:Heap} (f:AObj→AObj) (o:Nat):∀ m:List (Nat × AObj),(∀ p∈m,f (H p.1)=p.2)→Zob Zl m o=if m.any (·.1==o) then f (H o) else .dead
 | [],_=>by simp [Zob,Zl]
 | p::r,h=>by
  have ih:=Zwm f o r fun q hq=>h q (by simp [hq]);have h0:=h p (by simp)
  by_cases e:o=p.1
  ·subst e
   simp [Zob,upd,h0]
  ·have h1:(p::r).any (·.1==o)=r.any (·.1==o):=by
    have:(p.1==o)=false:=by simpa using fun h=>e h.symm
    rw [List.any_cons,this,Bool.false_or]
   rw [h1,← ih];simp only [Zob,upd,if_neg e]
theorem Zvm {H H':Heap} (f:AObj→AObj) (o:Nat):∀ m:List (Nat × AObj),Zob H (m.map fun p=>(p.1,f (H' p.1))) o=if m.any (·.1==o) then f (H' o) else H o
 | []=>by simp [Zob]
 | p::r=>by
  have ih:=Zvm (H:=H) (H':=H') f o r
  by_cases e:o=p.1
  ·subst e
   simp [Zob,upd]
  ·have h1:(p::r).any (·.1==o)=r.any (·.1==o):=by
    have:(p.1==o)=false:=by simpa using fun h=>e h.symm
    rw [List.any_cons,this,Bool.false_or]
   rw [h1,← ih];simp only [List.map_cons,Zob,upd,if_neg e]
theorem Z5q {G:Nat→V} (hGok:GOk G) {f:FuncId} {args:List V} {H:Heap} {K:V→Heap→Prop} (m:List (Nat × AObj)) (hen:Zha P f=true) (hm:∀ p∈m,(H p.1).recol Col.ent=p.2)
  (h:Spec P G f (args.map (V.recol Col.ent)) (Zob Zl m) (fun v H'=>K (v.recol Col.bk) (Zob H (m.map fun p=>(p.1,(H' p.1).recol Col.bk))))):CallA P G f args H K:=by
 refine Zcv hGok (fun o=>m.any (·.1==o)) hen ?_
 have e:(fun o=>if m.any (·.1==o) then (H o).recol Col.ent else .dead)=Zob Zl m:=by
  funext o
  exact (Zwm (AObj.recol Col.ent) o m hm).symm
 rw [e];refine h.mono fun v H' hk=>⟨_,fun o=>?_,hk⟩;rw [Zvm (AObj.recol Col.bk) o m]
 by_cases ho:m.any (·.1==o)=true
 ·rw [if_pos ho];exact .inr (.inl rfl)
 ·rw [if_neg ho];exact .inr (.inr ⟨Bool.eq_false_iff.2 ho,rfl⟩)
def grownC {α : Type} (c:Col) (g:Nat) (f : α → V) (l:List α):AObj:=match l with | [] => .dead | _::_ => .cells c g 0 (flat (l.map f))
theorem Zqq {α : Type} (c:Col) (g:Nat) (f : α → V):grownC c g f [] = .dead:=rfl
theorem Zjk {α : Type} (c:Col) (g:Nat) (f : α → V) {l:List α} (h:l≠[]):grownC c g f l = .cells c g 0 (flat (l.map f)):=by cases l with | nil=>exact absurd rfl h | cons=>rfl
theorem Zau {α : Type} (h:Col→Col) (c:Col) (g:Nat) (f f' : α → V) (hf:∀ x,(f x).recol h=f' x) (l:List α):(grownC c g f l).recol h=grownC (h c) g f' l:=by
 cases l with
 | nil=>rfl
 | cons x r =>
  simp only [grownC,AObj.recol,Z3];rw [← Zwe,List.map_map]
  congr 2
  exact List.map_congr_left fun y _=>hf y
theorem Z1q {ops:Array Oper} {Q:AS→Prop} {rest:List Oper} {τ : Nat→V} {H:Heap} {α : Type} {f : α → V} {m bytes:Nat} (hf:∀ x,(f x).cells.length=m) {e g:Nat} {l l2:List α} {xc:List V} {n:Nat} (hn:n=l2.length) (hx:xc=flat (l2.map f)) {ob:AObj}
  (hob:ob=obS H (grown (E.q+e) g m l)) (hH:H (E.q+e)=grownC .any g f l) (hr:Zvf bytes (l.length+l2.length))
  (h:∀ c2 g2,Zub P E ops Q rest ⟨upd τ e (grown (E.q+e) g2 m (l++l2)),upd H (E.q+e) (grownC c2 g2 f (l++l2))⟩) :
  Z18 P E ops Q rest e τ H m bytes (grown (E.q+e) g m l) (some (n,xc)) ob:=by
 subst hob hn hx
 cases l with
 | nil =>
  simp only [Zhe,Zqq,List.nil_append] at *;rw [Z0u];refine ⟨by simpa using hr,fun h0=>?_,fun h0 g2=>?_⟩
  ·have:l2=[]:=by simpa using h0
   subst this;have:=h .new 0;rwa [Zhe,Zqq,Zfn H _ _ hH] at this
  ·have hne:l2≠[]:=by simpa using h0
   have:=h .new g2;rwa [Zfc _ _ _ hne,Zjk _ _ _ hne] at this
 | cons x r =>
  have hne:x::r≠[]:=by simp
  have hne':(x::r)++l2≠[]:=by simp
  rw [Zfc _ _ _ hne] at *;rw [Zjk _ _ _ hne] at hH;rw [Z52,hH,Zaz];refine ⟨rfl,hr,rfl,by rw [Zsc hf];omega,by omega,fun g2=>?_⟩;have:=h .any g2;rw [Zfc _ _ _ hne',Zjk _ _ _ hne'] at this
  have e1:((flat (List.map f (x::r))).drop 0).take ((x::r).length * m)=flat (List.map f (x::r)):=by
   rw [List.drop_zero,← Zsc hf,List.take_length]
  rw [e1,← Zyg,← List.map_append];rwa [List.length_append] at this
theorem Z4q {α : Type} {F:Nat→Bool} {H:Heap} {o g:Nat} {c:Col} {f : α → V} {l:List α} (hF:F o=false) (hH:H o=grownC c g f l):FzO F H o (grownC .any g f l):=by
 cases l with
 | nil=>trivial
 | cons x r=>exact ⟨c,0,_,hH,.inr rfl,Nat.le_refl _,by rw [hF];simp,rfl,fun i h1 h2=>Zd _⟩
theorem Fz.grownC {α : Type} {F:Nat→Bool} {H:Heap} {o g m:Nat} {c:Col} {f : α → V} {l:List α} (hF:F o=true) (hH:H o=grownC c g f l) (hf:∀ x,(f x).cells.length=m) :
  Fz F H (Hs.grown o g m l) (Zb c m f (Zm l)):=by
 cases l with
 | nil=>exact Zd _
 | cons x r=>exact Zxd hF hH hf
theorem Z2c (F:Nat→Bool) {G:Nat→V} {f:FuncId} {args:List V} {H:Heap} {K:V→Heap→Prop} (args':List V) (m:List (Nat × AObj)) (hA:FzL F H args args') (hm:Z4o F H m) (h:CallA P G f args' (Zob Zl m) K):CallA P G f args H K :=
 Ze5 F hA.get.1 hA.get.2 (fun o=>Zgr o hm) h
end
end Go.Hs
end
