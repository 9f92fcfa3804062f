/- A part. No condition. -/
import Derived.Test.YtoahejkahaimnaaGreatDoorP16
import Derived.IntWalk
set_option linter.all false
namespace Go.Hs
section
variable{P:Program}{E:Ent}
inductive Sl(α : Type) where
 |nil
 |mk (clip:Bool) (l:List α)
def Sl.l{α : Type}:Sl α -> List α
 |.nil=>[]
 |.mk _ l=>l
@[go_sem] theorem Sl.l_nil{α : Type}:(Sl.nil:Sl α).l=[]:=rfl
@[go_sem] theorem Sl.l_mk{α : Type}(b:Bool)(l:List α):(Sl.mk b l).l=l:=rfl
def Za{α : Type}(c:Col)(E:Nat)(f : α -> V):Sl α -> V
 |.nil=>.nils
 |.mk b l=>.slice c b E (l.map f)
section
variable{α : Type}(c:Col)(m:Nat)(f : α -> V)(s:Sl α)
theorem Zmma:Zz9 true (Za c m f s)=some (.int .i64 s.l.length):=by cases s<;>simp[Za,Zz9,Sl.l]
theorem Zxma(e:Nat)(k:IntKind)(n:Int):idxK (some e) (Za c m f s) (.int k n)=if e=m/\0<=n then(s.l[n.toNat]?).map λx=>.view c (f x)else none:=by
 cases s with
 |nil=>simp[Za,idxK,Sl.l]
 |mk b l=>simp only[Za,idxK,Sl.l,List.getElem?_map,Option.map_map];rfl
theorem Zcga(n:Nat)(ob:AObj)(c':Col):Zng (some (false,n)) ob (.view c' (Za c m f s))=some (Za c m f s):=by cases s<;>rfl
theorem Zvka(ob:AObj):srcK m ob (Za c m f s)=some (s.l.length,flat (s.l.map f)):=by cases s<;>simp[Za,srcK,Sl.l,flat]
theorem Z5la:Zd9 2 (Za c m f s)=some (match s with|.nil=>true|.mk _ _=>false):=by cases s<;>rfl
theorem Z9ha:(Za c m f s).cells=[Za c m f s]:=by cases s<;>rfl
theorem Zgea:(Za c m f s).solid=true:=by cases s<;>rfl
attribute[go_sem]Zmma Zxma Zcga Zvka Z5la Z9ha Zgea
end
def Sl.sub{α : Type}(s:Sl α)(i j:Nat):Sl α:=
 match s with
 |.nil=>.nil
 |.mk b l=>.mk (b&&j==l.length) ((l.drop i).take (j-i))
@[go_sem] theorem Ztt{α : Type}(s:Sl α)(i j:Nat):(s.sub i j).l=(s.l.drop i).take (j-i):=by cases s<;>simp[Sl.sub,Sl.l]
@[go_sem] theorem slK_enc{α : Type}(c:Col)(m:Nat)(f : α -> V)(s:Sl α)(lo hi:Option V):slK m (Za c m f s) lo hi =
  slJ (Zga 0 lo) (Zga s.l.length hi) λi j=>if i<=j/\j<=s.l.length then some (Za c m f (s.sub i j))else none:=by
 cases s with
 |nil=>
  show slJ (Zga 0 lo) (Zga 0 hi) _=slJ (Zga 0 lo) (Zga 0 hi) _
  congr 1
  funext i j
  by_cases h:i=0/\j=0
  rw[if_pos h];exact(if_pos (show i<=j/\j<=0 by omega)).symm;rw[if_neg h];exact(if_neg (show ¬ (i<=j/\j<=0) by omega)).symm
 |mk b l=>
  simp only[Za,slK,Sl.l,Sl.sub,List.length_map,true_and,List.map_take,List.map_drop]
def emp:Nat->V:=λ_=>.top
def Zfa{α : Type}(τ : Nat -> α):List (Nat × α)->Nat -> α
 |[] => τ
 |p::r=>upd (Zfa τ r) p.1 p.2
theorem Z5r{α : Type}(τ : Nat -> α):Zfa τ [] = τ := rfl
theorem Zbb{α : Type}(τ : Nat -> α)(p:Nat × α)(r:List (Nat × α)):Zfa τ (p::r)=upd (Zfa τ r) p.1 p.2:=rfl
theorem Zp0(o:Nat):Zk o=.dead:=rfl
attribute[go_sem]Z5r Zbb Zp0
theorem Zob{α : Type}{τ f:Nat -> α}(t:Nat):∀ l:List (Nat × α),(∀ p∈l,f p.1=p.2)->Zfa τ l t = τ t\/Zfa τ l t=f t
 |[],_=>.inl rfl
 |p::r,h=>by
  simp only[Zfa,upd]
  split
  rename_i e;subst e;exact .inr (h p zS).symm;exact Zob t r λq hq=>h q (by simp[hq])
theorem Weak.keep{s:AS}(l:List (Nat×V))(m:List (Nat×AObj))(h:∀ p∈l,s.τ p.1=p.2)(hm:∀ p∈m,s.H p.1=p.2):Weak E s ⟨Zfa emp l,Zfa Zk m⟩:=by
 refine Zqd (λ_=>false) (λt=>?_) (λo=>?_)
 rcases Zob (τ := emp) (f:=s.τ) t l h with h1|h1
 exact .inl h1;exact .inr (h1 ▸ Cv.base _ _ (.inl rfl))
 rcases Zob (τ := Zk) (f:=s.H) o m hm with h1|h1
 show FzO _ _ _ (Zfa Zk m o)
 rw[h1];trivial
 .show FzO _ _ _ (Zfa Zk m o)
  rw[h1]
  cases hp:s.H o with
  |dead=>trivial
  |mp lo b ks vs=>exact⟨vs,hp,rfl,λi _ _=>.base _ _ (.inl rfl)⟩
  |lp b r=>exact hp
  |cells c g fz cs=>exact⟨c,fz,cs,hp,.inl rfl,Nat.le_refl _,λhh=>by simp at hh,rfl,λi h1 h2=>.base _ _ (.inl rfl)⟩
end
end Go.Hs
