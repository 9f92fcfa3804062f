/- Part 25 of a proof; no condition. -/
import Derived.Test.YtegjlbpnpiigkaaGreatDoorPart24
set_option linter.unusedSimpArgs false
set_option linter.unusedVariables false
section
namespace Go.Hs
section
variable {P:Program} {E:Ent}
def grown {α : Type} (o g m:Nat) (l:List α):V:=match l with | [] => .nils | _::_ => .msl o g 0 l.length m
def Zxa {α : Type} (g:Nat) (f : α → V) (l:List α):AObj:=match l with | [] => .dead | _::_ => .cells .new g 0 (flat (l.map f))
theorem Zhe {α : Type} (o g m:Nat):grown o g m ([]:List α) = .nils:=rfl
theorem Zhg {α : Type} (g:Nat) (f : α → V):Zxa g f [] = .dead:=rfl
theorem Zfc {α : Type} (o g m:Nat) {l:List α} (h:l≠[]):grown o g m l = .msl o g 0 l.length m:=by cases l with | nil=>exact absurd rfl h | cons=>rfl
theorem Zxc {α : Type} (g:Nat) (f : α → V) {l:List α} (h:l≠[]):Zxa g f l = .cells .new g 0 (flat (l.map f)):=by cases l with | nil=>exact absurd rfl h | cons=>rfl
theorem Zsc {α : Type} {m:Nat} {f : α → V} (hf:∀ x,(f x).cells.length=m) (l:List α):(flat (l.map f)).length=l.length * m:=by
 induction l with
 | nil=>simp [flat]
 | cons x r ih =>
  simp only [flat,List.map_cons,List.flatMap_cons,List.length_append,List.length_cons] at *;rw [ih,hf,Nat.add_mul];omega
theorem Zyg (a b:List V):flat (a++b)=flat a++flat b:=by simp [flat]
theorem Zfn {α : Type} (f:Nat → α) (k:Nat) (x : α) (h:f k=x):upd f k x=f:=by
 funext n
 simp only [upd]
 split
 ·rename_i e;rw [e,h]
 ·rfl
@[go_sem] theorem lenK_grown {α : Type} (o g m:Nat) (l:List α):Zs0 true (grown o g m l)=some (.int .i64 l.length):=by cases l<;>rfl
@[go_sem] theorem cells_grown {α : Type} (o g m:Nat) (l:List α):(grown o g m l).cells=[grown o g m l]:=by cases l<;>rfl
@[go_sem] theorem solid_grown {α : Type} (o g m:Nat) (l:List α):(grown o g m l).solid=true:=by cases l<;>rfl
section
variable {ops:Array Oper} {Q:AS→Prop} {rest:List Oper} {τ : Nat→V} {H:Heap}
theorem Zma {α : Type} {f : α → V} {m bytes:Nat} (hf:∀ x,(f x).cells.length=m) {e g:Nat} {l l2:List α} {xc:List V} {n:Nat} (hn:n=l2.length) (hx:xc=flat (l2.map f)) {ob:AObj}
  (hob:ob=obS H (grown (E.q+e) g m l)) (hH:H (E.q+e)=Zxa g f l) (hr:Zvf bytes (l.length+l2.length))
  (h:∀ g2,Zub P E ops Q rest ⟨upd τ e (grown (E.q+e) g2 m (l++l2)),upd H (E.q+e) (Zxa g2 f (l++l2))⟩) :
  Z18 P E ops Q rest e τ H m bytes (grown (E.q+e) g m l) (some (n,xc)) ob:=by
 subst hob hn hx
 cases l with
 | nil =>
  simp only [Zhe,Zhg,List.nil_append] at *;rw [Z0u];refine ⟨by simpa using hr,fun h0=>?_,fun h0 g2=>?_⟩
  ·have:l2=[]:=by simpa using h0
   subst this;have:=h 0;rwa [Zhe,Zhg,Zfn H _ _ hH] at this
  ·have hne:l2≠[]:=by simpa using h0
   have:=h g2;rwa [Zfc _ _ _ hne,Zxc _ _ hne] at this
 | cons x r =>
  have hne:x::r≠[]:=by simp
  have hne':(x::r)++l2≠[]:=by simp
  rw [Zfc _ _ _ hne] at *;rw [Zxc _ _ hne] at hH;rw [Z52,hH,Zaz];refine ⟨rfl,hr,rfl,by rw [Zsc hf];omega,by omega,fun g2=>?_⟩;have:=h g2;rw [Zfc _ _ _ hne',Zxc _ _ hne'] at this
  have e1:((flat (List.map f (x::r))).drop 0).take ((x::r).length * m)=flat (List.map f (x::r)):=by
   rw [List.drop_zero,← Zsc hf,List.take_length]
  rw [e1,← Zyg,← List.map_append];rwa [List.length_append] at this
end
@[go_sem] theorem bk_new:Col.new.bk = .new:=rfl
@[go_sem] theorem Z14:Col.any.bk = .any:=rfl
@[go_sem] theorem moved_new:Col.new.moved = .new:=rfl
theorem Zaa {b n:Nat} (hb:b≤1000) (hn:n<10000000000):Zvf b n:=by
 refine ⟨?_,by omega⟩;have:n * b≤10000000000 * 1000:=Nat.mul_le_mul (by omega) hb;omega
theorem Zd {F:Nat→Bool} {H:Heap} (v:V):Fz F H v v := .base _ _ (.inl rfl)
theorem Fz.top {F:Nat→Bool} {H:Heap} (v:V):Fz F H v .top := .base _ _ (.inr (.inl rfl))
theorem Fz.any {F:Nat→Bool} {H:Heap} {v v':V} (h:v.recol (fun _ => .any)=v'):Fz F H v v' := .base _ _ (.inr (.inr h.symm))
theorem Zxd {α : Type} {F:Nat→Bool} {H:Heap} {o g m fz:Nat} {c:Col} {f : α → V} {l:List α} (hF:F o=true) (hH:H o = .cells c g fz (flat (l.map f))) (hf:∀ x,(f x).cells.length=m) :
  Fz F H (.msl o g 0 l.length m) (.slice c false m (l.map f)):=by
 refine .msl o g 0 l.length m c fz _ _ hF hH (by simp) (by simpa using fun a _=>hf a) (by rw [Zsc hf];omega) fun i h1 h2=>?_;refine .base _ _ (.inl ?_);simp only [Nat.zero_add]
def Zm {α : Type} (l:List α):Sl α := match l with | [] => .nil | x::r => .mk false (x::r)
@[go_sem] theorem Zp {α : Type} (l:List α):(Zm l).l=l:=by cases l<;>rfl
theorem Z0a {α : Type} {F:Nat→Bool} {H:Heap} {o g m:Nat} {f : α → V} {l:List α} (hF:F o=true) (hH:H o=Zxa g f l) (hf:∀ x,(f x).cells.length=m) :
  Fz F H (grown o g m l) (Zb .new m f (Zm l)):=by
 cases l with
 | nil=>exact Zd _
 | cons x r=>exact Zxd hF hH hf
theorem Z17 {F:Nat→Bool} {H:Heap} {o:Nat} (hF:F o=false):FzO F H o (H o):=by
 cases h:H o with
 | dead=>trivial
 | mp lo b ks vs=>exact h
 | cells c g fz cs=>exact ⟨c,fz,cs,h,.inl rfl,Nat.le_refl _,by rw [hF];simp,rfl,fun i h1 h2=>Zd _⟩
theorem FzO.keep {F:Nat→Bool} {H:Heap} {o:Nat} {ob:AObj} (hF:F o=false) (hH:H o=ob):FzO F H o ob:=hH ▸ Z17 hF
def FzL (F:Nat→Bool) (H:Heap):List V→List V→Prop
 | [],[]=>True
 | a::r,b::t=>Fz F H a b∧FzL F H r t
 | _,_=>False
theorem FzL.get {F:Nat→Bool} {H:Heap}:∀ {l r:List V},FzL F H l r→r.length=l.length∧∀ i (h1:i<l.length) (h2:i<r.length),Fz F H l[i] r[i]
 | [],[],_=>⟨rfl,fun i h1=>by simp at h1⟩
 | [],_::_,h=>h.elim
 | _::_,[],h=>h.elim
 | a::l,b::r,h=>by
  obtain ⟨h1,h2⟩:=FzL.get h.2;refine ⟨by simp [h1],fun i k1 k2=>?_⟩
  cases i with
  | zero=>exact h.1
  | succ i=>exact h2 i (by simpa using k1) (by simpa using k2)
theorem FzO.of {F:Nat→Bool} {H:Heap} {o:Nat} {c:Col} {g fz:Nat} {cs cs':List V} (hF:F o=false) (hH:H o = .cells c g fz cs) (h:FzL F H cs cs'):FzO F H o (.cells c g fz cs') :=
 ⟨c,fz,cs,hH,.inl rfl,Nat.le_refl _,by rw [hF];simp,h.get.1,h.get.2⟩
theorem Zc5 {F:Nat→Bool} {H:Heap} {o:Nat} {c:Col} {g fz:Nat} {cs cs':List V} (hF:F o=false) (hH:H o = .cells c g fz cs) (h:FzL F H cs cs'):FzO F H o (.cells .any g fz cs') :=
 ⟨c,fz,cs,hH,.inr rfl,Nat.le_refl _,by rw [hF];simp,h.get.1,h.get.2⟩
def Zg1 (F:Nat→Bool) (H:Heap) (τ : Nat→V):List (Nat × V)→Prop
 | []=>True
 | p::r=>Fz F H (τ p.1) p.2∧Zg1 F H τ r
@[go_sem] theorem allFz_nil (F:Nat→Bool) (H:Heap) (τ : Nat→V):Zg1 F H τ []=True:=rfl
@[go_sem] theorem allFz_cons (F:Nat→Bool) (H:Heap) (τ : Nat→V) (p:Nat × V) (r:List (Nat × V)):Zg1 F H τ (p::r)=(Fz F H (τ p.1) p.2∧Zg1 F H τ r):=rfl
def Z4o (F:Nat→Bool) (H:Heap):List (Nat × AObj)→Prop
 | []=>True
 | p::r=>FzO F H p.1 p.2∧Z4o F H r
@[go_sem] theorem Zz (F:Nat→Bool) (H:Heap):Z4o F H []=True:=rfl
@[go_sem] theorem Zx (F:Nat→Bool) (H:Heap) (p:Nat × AObj) (r:List (Nat × AObj)):Z4o F H (p::r)=(FzO F H p.1 p.2∧Z4o F H r):=rfl
theorem Zi2 {F:Nat→Bool} {H:Heap} {τ : Nat→V} (t:Nat):∀ {l:List (Nat × V)},Zg1 F H τ l→Zob emp l t = .top∨Fz F H (τ t) (Zob emp l t)
 | [],_ => .inl rfl
 | p::r,h=>by
  simp only [Zob,upd]
  split
  ·rename_i e;subst e;exact .inr h.1
  ·exact Zi2 t h.2
theorem Zgr {F:Nat→Bool} {H:Heap} (o:Nat):∀ {m:List (Nat × AObj)},Z4o F H m→FzO F H o (Zob Zl m o)
 | [],_=>trivial
 | p::r,h=>by
  simp only [Zob,upd]
  split
  ·rename_i e;subst e;exact h.1
  ·exact Zgr o h.2
theorem Zv (F:Nat→Bool) {τ : Nat→V} {H:Heap} {l:List (Nat × V)} {m:List (Nat × AObj)} (h:Zg1 F H τ l) (hm:Z4o F H m):Weak E ⟨τ,H⟩ (Hs.st l m) :=
 Zcz F (fun t=>Zi2 t h) (fun o=>Zgr o hm)
end
end Go.Hs
end
