/- A part. No condition. -/
import Derived.Test.YtkennpiglkfalaaGreatDoorP16
import Derived.IntWalk
set_option linter.all false
namespace Go.Hs
section
variable{P:Program}{E:BX}
inductive Sl(α:Type) where
 |nil
 |mk (clip:Bool) (l:List α)
def Sl.l{α}:Sl α->List α
 |.nil=>[]|.mk _ l=>l
@[go_sem] def Sl.l_nil{α}:(Sl.nil:Sl α).l=[]:=rfl
@[go_sem] def Sl.l_mk{α}(b)(l:List α):(Sl.mk b l).l=l:=rfl
def Za{α}(c:AH)(E:Nat)(f:α->V):Sl α->V
 |.nil=>.AG|.mk b l=>.slice c b E (l.map f)
section
variable{α:Type}(c:AH)(m:Nat)(f:α->V)(s:Sl α)
def tL:D2 true (Za c m f s)=some (.int .i64 s.l.length):=by cases s<;>simp[Za,D2,Sl.l]
def yF(e k n):MR (some e) (Za c m f s) (.int k n)=if e=m/\0<=n then(s.l[n.toNat]?).map λx=>.view c (f x)else none:=by rcases s with _|⟨b,l⟩;simp[Za,MR,Sl.l];simp only[Za,MR,ED,Option.map_map];rfl
def oV(n ob c'):Rx (some (false,n)) ob (.view c' (Za c m f s))=some (Za c m f s):=by cases s<;>rfl
def sC(ob):SS m ob (Za c m f s)=some (s.l.length,flat (s.l.map f)):=by cases s<;>simp[Za,SS,Sl.l,flat]
def ABS:Du 2 (Za c m f s)=some (match s with|.nil=>true|.mk _ _=>false):=by cases s<;>rfl
def q_:(Za c m f s).cells=[Za c m f s]:=by cases s<;>rfl
def qM:(Za c m f s).solid=true:=by cases s<;>rfl
attribute[go_sem]tL yF oV sC ABS q_ qM
end
def Sl.sub{α}(s:Sl α)(i j:Nat):Sl α:=
 match s with|.nil=>.nil|.mk b l=>.mk (b&&j==l.length) ((l.drop i).take (j-i))
@[go_sem] def Mq{α}(s:Sl α)(i j):(s.sub i j).l=(s.l.drop i).take (j-i):=by cases s<;>simp[Sl.sub,Sl.l]
@[go_sem] def AES{α}(c m f)(s:Sl α)(lo hi):IV m (Za c m f s) lo hi =
  JP (Y5 0 lo) (Y5 s.l.length hi) λi j=>if i<=j/\j<=s.l.length then some (Za c m f (s.sub i j))else none:=by
 rcases s with _|⟨b,l⟩;show JP _ _ _=JP _ _ _;congr 1;funext i j;by_cases h:i=0/\j=0;rw[AF h];exact(AF (show i<=j/\j<=0 by omega)).symm;rw[AA h];exact(AA (show ¬(i<=j/\j<=0) by omega)).symm;simp only[Za,IV,Sl.l,Sl.sub,BC,KE,List.map_take,List.map_drop]
def Mv:Nat->V:=λ_=>.top
@[go_sem] def ADf(t):Mv t=.top:=rfl
def Yb{α}(τ:Nat->α):List (Nat × α)->Nat->α
 |[] => τ|p::r=>Ye (Yb τ r) p.1 p.2
def YI{α}(τ:Nat->α):Yb τ [] = τ:=rfl
def Vc{α}(τ p)(r:List (Nat × α)):Yb τ (p::r)=Ye (Yb τ r) p.1 p.2:=rfl
def wg(o):Zm o=.AR:=rfl
attribute[go_sem]YI Vc wg
def Vl{α}{τ f:Nat->α}(t):∀ l,(∀ p∈l,f p.1=p.2)->Yb τ l t = τ t\/Yb τ l t=f t
 |[],_=>.inl rfl|p::r,h=>by simp only[Yb,Ye];split;grind;exact Vl t r λq a=>h q zG
def Weak.keep{s}(l m)(h:∀ p∈l,s.τ p.1=p.2)(e:∀ p∈m,s.H p.1=p.2):Weak E s ⟨Yb Mv l,Yb Zm m⟩:=by
 refine T4 (λ_=>false) (λt=>?_) (λo=>?_);rcases Vl t l h with a|a;exact .inl a;exact .inr (a ▸ Cv.base _ _ (.inl rfl));rcases Vl o m e with a|a;show FzO _ _ _ (Yb Zm m o);rw[a];trivial
 .show FzO _ _ _ (Yb Zm m o);rw[a];cases d:s.H o with|AR=>trivial|mp lo b ks vs=>exact⟨vs,d,rfl,λi _ _=>.base _ _ (.inl rfl)⟩|lp b r=>exact d|cells c g fz cs=>exact⟨c,fz,cs,d,.inl rfl,BO _,λf=>by grind,rfl,λi a h2=>.base _ _ (.inl rfl)⟩
