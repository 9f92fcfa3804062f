/- Part 21 of a proof; no condition. -/
import Derived.Test.YtegjlbpnpiigkaaGreatDoorPart18
import Derived.IntWalk
set_option linter.unusedSimpArgs false
set_option linter.unusedVariables false
section
namespace Go.Hs
section
variable {P:Program} {E:Ent}
inductive Sl (α : Type) where
 | nil
 | mk (clip:Bool) (l:List α)
def Sl.l {α : Type}:Sl α → List α
 | .nil=>[]
 | .mk _ l=>l
@[go_sem] theorem Sl.l_nil {α : Type}:(Sl.nil:Sl α).l=[]:=rfl
@[go_sem] theorem Sl.l_mk {α : Type} (b:Bool) (l:List α):(Sl.mk b l).l=l:=rfl
def Zb {α : Type} (c:Col) (E:Nat) (f : α → V):Sl α → V
 | .nil => .nils
 | .mk b l => .slice c b E (l.map f)
section
variable {α : Type} (c:Col) (m:Nat) (f : α → V) (s:Sl α)
@[go_sem] theorem lenK_enc:Zs0 true (Zb c m f s)=some (.int .i64 s.l.length):=by cases s<;>simp [Zb,Zs0,Sl.l]
@[go_sem] theorem idxK_enc (e:Nat) (k:IntKind) (n:Int):Zo8 (some e) (Zb c m f s) (.int k n)=if e=m∧0≤n then (s.l[n.toNat]?).map fun x => .view c (f x) else none:=by
 cases s with
 | nil=>simp [Zb,Zo8,Sl.l]
 | mk b l=>simp only [Zb,Zo8,Sl.l,List.getElem?_map,Option.map_map];rfl
@[go_sem] theorem loadK_enc (n:Nat) (ob:AObj) (c':Col):Zom (some (false,n)) ob (.view c' (Zb c m f s))=some (Zb c m f s):=by cases s<;>rfl
@[go_sem] theorem srcK_enc (ob:AObj):srcK m ob (Zb c m f s)=some (s.l.length,flat (s.l.map f)):=by cases s<;>simp [Zb,srcK,Sl.l,flat]
@[go_sem] theorem cells_enc:(Zb c m f s).cells=[Zb c m f s]:=by cases s<;>rfl
@[go_sem] theorem solid_enc:(Zb c m f s).solid=true:=by cases s<;>rfl
end
def Sl.sub {α : Type} (s:Sl α) (i j:Nat):Sl α :=
 match s with
 | .nil => .nil
 | .mk b l => .mk (b && j==l.length) ((l.drop i).take (j-i))
@[go_sem] theorem Zez {α : Type} (s:Sl α) (i j:Nat):(s.sub i j).l=(s.l.drop i).take (j-i):=by cases s<;>simp [Sl.sub,Sl.l]
@[go_sem] theorem slK_enc {α : Type} (c:Col) (m:Nat) (f : α → V) (s:Sl α) (lo hi:Option V):slK m (Zb c m f s) lo hi =
  slJ (Zoa 0 lo) (Zoa s.l.length hi) fun i j=>if i≤j∧j≤s.l.length then some (Zb c m f (s.sub i j)) else none:=by
 cases s with
 | nil =>
  show slJ (Zoa 0 lo) (Zoa 0 hi) _=slJ (Zoa 0 lo) (Zoa 0 hi) _
  congr 1
  funext i j
  by_cases h:i=0∧j=0
  ·rw [if_pos h]
   exact (if_pos (show i≤j∧j≤0 by omega)).symm
  ·rw [if_neg h]
   exact (if_neg (show ¬ (i≤j∧j≤0) by omega)).symm
 | mk b l =>
  simp only [Zb,slK,Sl.l,Sl.sub,List.length_map,true_and,List.map_take,List.map_drop]
def emp:Nat→V:=fun _ => .top
def Zob {α : Type} (τ : Nat → α):List (Nat × α)→Nat → α
 | [] => τ
 | p::r=>upd (Zob τ r) p.1 p.2
@[go_sem] theorem sets_nil {α : Type} (τ : Nat → α):Zob τ [] = τ := rfl
@[go_sem] theorem sets_cons {α : Type} (τ : Nat → α) (p:Nat × α) (r:List (Nat × α)):Zob τ (p::r)=upd (Zob τ r) p.1 p.2:=rfl
@[go_sem] theorem hNone_apply (o:Nat):Zl o = .dead:=rfl
theorem Zal {α : Type} {τ f:Nat → α} (t:Nat):∀ l:List (Nat × α),(∀ p∈l,f p.1=p.2)→Zob τ l t = τ t∨Zob τ l t=f t
 | [],_ => .inl rfl
 | p::r,h=>by
  simp only [Zob,upd]
  split
  ·rename_i e;subst e;exact .inr (h p (by simp)).symm
  ·exact Zal t r fun q hq=>h q (by simp [hq])
theorem Weak.keep {s:AS} (l:List (Nat × V)) (m:List (Nat × AObj)) (h:∀ p∈l,s.τ p.1=p.2) (hm:∀ p∈m,s.H p.1=p.2):Weak E s ⟨Zob emp l,Zob Zl m⟩:=by
 refine Zcz (fun _=>false) (fun t=>?_) (fun o=>?_)
 ·rcases Zal (τ := emp) (f:=s.τ) t l h with h1 | h1
  ·exact .inl h1
  ·exact .inr (h1 ▸ Cv.base _ _ (.inl rfl))
 ·rcases Zal (τ := Zl) (f:=s.H) o m hm with h1 | h1
  ·show FzO _ _ _ (Zob Zl m o)
   rw [h1];trivial
  ·show FzO _ _ _ (Zob Zl m o)
   rw [h1]
   cases hp:s.H o with
   | dead=>trivial
   | mp lo b ks vs=>exact hp
   | cells c g fz cs=>exact ⟨c,fz,cs,hp,.inl rfl,Nat.le_refl _,fun hh=>by simp at hh,rfl,fun i h1 h2 => .base _ _ (.inl rfl)⟩
end
end Go.Hs
end
