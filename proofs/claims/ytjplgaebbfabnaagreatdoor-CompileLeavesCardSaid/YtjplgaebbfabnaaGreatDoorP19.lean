/- A part. No condition. -/
import Derived.Test.YtjplgaebbfabnaaGreatDoorP16
import Derived.IntWalk
set_option linter.all false
namespace Go.Hs
section
variable{P:Program}{E:Ent}
inductive Sl(α : Type) where
 |nil
 |mk (clip:Bool) (l:List α)
def Sl.l{α : Type}:Sl α -> List α
 |.nil=>[]
 |.mk _ l=>l
@[go_sem] theorem Sl.l_nil{α : Type}:(Sl.nil:Sl α).l=[]:=rfl
@[go_sem] theorem Sl.l_mk{α : Type}(b:Bool)(l:List α):(Sl.mk b l).l=l:=rfl
def Za{α : Type}(c:Col)(E:Nat)(f : α -> V):Sl α -> V
 |.nil=>.nils
 |.mk b l=>.slice c b E (l.map f)
section
variable{α : Type}(c:Col)(m:Nat)(f : α -> V)(s:Sl α)
theorem Ze7:J6 true (Za c m f s)=some (.int .i64 s.l.length):=by cases s<;>simp[Za,J6,Sl.l]
theorem Zv7(e:Nat)(k:IntKind)(n:Int):Zxj (some e) (Za c m f s) (.int k n)=if e=m/\0<=n then(s.l[n.toNat]?).map λx=>.view c (f x)else none:=by
 cases s with
 |nil=>simp[Za,Zxj,Sl.l]
 |mk b l=>simp only[Za,Zxj,List.getElem?_map,Option.map_map];rfl
theorem Zy0(n:Nat)(ob:AObj)(a:Col):Ty (some (false,n)) ob (.view a (Za c m f s))=some (Za c m f s):=by cases s<;>rfl
theorem Zh5(ob:AObj):Zi5 m ob (Za c m f s)=some (s.l.length,flat (s.l.map f)):=by cases s<;>simp[Za,Zi5,Sl.l,flat]
theorem Z06:Pi 2 (Za c m f s)=some (match s with|.nil=>true|.mk _ _=>false):=by cases s<;>rfl
theorem Za2:(Za c m f s).cells=[Za c m f s]:=by cases s<;>rfl
theorem Zaz:(Za c m f s).solid=true:=by cases s<;>rfl
attribute[go_sem]Ze7 Zv7 Zy0 Zh5 Z06 Za2 Zaz
end
def Sl.sub{α : Type}(s:Sl α)(i j:Nat):Sl α:=
 match s with
 |.nil=>.nil
 |.mk b l=>.mk (b&&j==l.length) ((l.drop i).take (j-i))
@[go_sem] theorem B1{α : Type}(s:Sl α)(i j:Nat):(s.sub i j).l=(s.l.drop i).take (j-i):=by cases s<;>simp[Sl.sub,Sl.l]
@[go_sem] theorem slK_enc{α : Type}(c:Col)(m:Nat)(f : α -> V)(s:Sl α)(lo hi:Option V):slK m (Za c m f s) lo hi =
  slJ (Yu 0 lo) (Yu s.l.length hi) λi j=>if i<=j/\j<=s.l.length then some (Za c m f (s.sub i j))else none:=by
 cases s with
 |nil=>
  show slJ (Yu 0 lo) (Yu 0 hi) _=slJ (Yu 0 lo) (Yu 0 hi) _
  congr 1
  funext i j
  by_cases h:i=0/\j=0
  rw[if_pos h];exact(if_pos (show i<=j/\j<=0 by omega)).symm;rw[if_neg h];exact(if_neg (show ¬ (i<=j/\j<=0) by omega)).symm
 |mk b l=>
  simp only[Za,slK,Sl.l,Sl.sub,List.length_map,true_and,List.map_take,List.map_drop]
def La:Nat->V:=λ_=>.top
def Z5{α : Type}(τ : Nat -> α):List (Nat × α)->Nat -> α
 |[] => τ
 |p::r=>Ya (Z5 τ r) p.1 p.2
theorem Db{α : Type}(τ : Nat -> α):Z5 τ [] = τ := rfl
theorem Wp{α : Type}(τ : Nat -> α)(p:Nat × α)(r:List (Nat × α)):Z5 τ (p::r)=Ya (Z5 τ r) p.1 p.2:=rfl
theorem Z1j(o:Nat):Zj o=.dead:=rfl
attribute[go_sem]Db Wp Z1j
theorem Ww{α : Type}{τ f:Nat -> α}(t:Nat):∀ l:List (Nat × α),(∀ p∈l,f p.1=p.2)->Z5 τ l t = τ t\/Z5 τ l t=f t
 |[],_=>.inl rfl
 |p::r,h=>by
  simp only[Z5,Ya]
  split
  grind
  exact Ww t r λq a=>h q (by grind)
theorem Weak.keep{s:AS}(l:List (Nat×V))(m:List (Nat×AObj))(h:∀ p∈l,s.τ p.1=p.2)(e:∀ p∈m,s.H p.1=p.2):Weak E s ⟨Z5 La l,Z5 Zj m⟩:=by
 refine Tc (λ_=>false) (λt=>?_) (λo=>?_)
 rcases Ww (τ := La) (f:=s.τ) t l h with a|a
 exact .inl a;exact .inr (a ▸ Cv.base _ _ (.inl rfl))
 rcases Ww (τ := Zj) (f:=s.H) o m e with a|a
 show FzO _ _ _ (Z5 Zj m o)
 rw[a];trivial
 .show FzO _ _ _ (Z5 Zj m o)
  rw[a]
  cases d:s.H o with
  |dead=>trivial
  |mp lo b ks vs=>exact⟨vs,d,rfl,λi _ _=>.base _ _ (.inl rfl)⟩
  |lp b r=>exact d
  |cells c g fz cs=>exact⟨c,fz,cs,d,.inl rfl,Nat.le_refl _,λj=>by grind,rfl,λi a k=>.base _ _ (.inl rfl)⟩
end
end Go.Hs
