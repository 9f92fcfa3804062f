/- A part. No condition. -/
import Derived.Test.YtjplgaebbfabnaaGreatDoorP31
set_option linter.all false
namespace Go.Hs
section
variable{P:Program}{E:Ent}{s:AS}{a:Act}{w:World}
def AObj.toAny:AObj->AObj
 |.dead=>.dead
 |.cells _ g fz cs=>.cells .any g fz (Yv Col.ent cs)
 |.mp ..=>.dead
 |.lp ..=>.dead
def AObj.backNew:AObj->AObj
 |.dead=>.dead
 |.cells _ g fz cs=>.cells .new g fz (Yv Col.bk cs)
 |.mp ..=>.dead
 |.lp ..=>.dead
theorem Zbq{G:Nat->V}(b:Y6 G){f:FuncId}{args:List V}{H:Heap}{K:V->Heap->Prop}(m:List (Nat×AObj))(d:Z7 P f=true)(l:∀ p∈m,(H p.1).toAny=p.2)
  (j:∀ p∈m,∀ c g fz cs,H p.1=.cells c g fz cs->c=.new)
  (h:Spec P G f (args.map (V.recol Col.ent)) (Z5 Zj m) (λv H'=>K (v.recol Col.bk) (Z5 H (m.map λp=>(p.1,(H' p.1).backNew))))):CallA P G f args H K:=by
 have e:(λo=>if m.any (·.1==o)then(H o).rec2 (λ_=>.any) Col.ent else .dead)=Z5 Zj m:=by
  funext o
  exact(Jr AObj.toAny o m l).symm
 refine CallP.no (B7 b (λ_=>.any) (λ_=>.new) (λo=>m.any (·.1==o)) (λ_=>zd) (.inr ⟨λ_=>zd,λo c g fz cs y i=>?_⟩) d λX a r k q n=>?_)
 grind
 rw[e]at k⊢;refine(h X a r k q n).mono ?_;rintro e w' ⟨c,v,H',Y,x,w,u,t,s⟩;refine⟨c,v,H',Y,⟨_,λo=>?_,.inl ⟨x,s⟩⟩,w,u,t⟩;rw[Jp AObj.backNew o m]
 by_cases i:m.any (·.1==o)=true
 rw[if_pos i];exact .inr (.inl rfl)
 grind
end
end Go.Hs
