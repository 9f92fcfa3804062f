/- A part. No condition. -/
import Derived.Test.YtoahejkahaimnaaGreatDoorP33
set_option linter.all false
namespace Go.Hs
section
variable{P:Program}{E:Ent}{s:AS}{a:Act}{w:World}
def AObj.toAny:AObj->AObj
 |.dead=>.dead
 |.cells _ g fz cs=>.cells .any g fz (Zja Col.ent cs)
 |.mp ..=>.dead
 |.lp ..=>.dead
def AObj.backNew:AObj->AObj
 |.dead=>.dead
 |.cells _ g fz cs=>.cells .new g fz (Zja Col.bk cs)
 |.mp ..=>.dead
 |.lp ..=>.dead
theorem Zhka:AObj.toAny=AObj.rec2 (λ_=>.any) Col.ent:=by funext x;cases x<;>rfl
theorem Zzaa:AObj.backNew=AObj.rec2 (λ_=>.new) Col.bk:=by funext x;cases x<;>rfl
theorem Z64{G:Nat->V}(hGok:GOk G){f:FuncId}{args:List V}{H:Heap}{K:V->Heap->Prop}(m:List (Nat×AObj))(hen:Z2 P f=true)(hm:∀ p∈m,(H p.1).toAny=p.2)
  (hnew:∀ p∈m,∀ c g fz cs,H p.1=.cells c g fz cs->c=.new)
  (h:Spec P G f (args.map (V.recol Col.ent)) (Zfa Zk m) (λv H'=>K (v.recol Col.bk) (Zfa H (m.map λp=>(p.1,(H' p.1).backNew))))):CallA P G f args H K:=by
 have e:(λo=>if m.any (·.1==o)then(H o).rec2 (λ_=>.any) Col.ent else .dead)=Zfa Zk m:=by
  funext o
  rw[<- Zhka];exact(Zjm AObj.toAny o m hm).symm
 refine CallP.no (Zur hGok (λ_=>.any) (λ_=>.new) (λo=>m.any (·.1==o)) (λ_=>zd) (.inr ⟨λ_=>zd,λo c g fz cs hd ho=>?_⟩) hen λX cargs h0 h1 h2 h3=>?_);obtain⟨p,hp,he⟩:=List.any_eq_true.1 hd;have he:p.1=o:=zu he;exact hnew p hp c g fz cs (he ▸ ho);rw[e]at h1⊢;refine(h X cargs h0 h1 h2 h3).mono ?_;rintro e w' ⟨c,v,H',Y,a1,a2,a3,a4,a5⟩;refine⟨c,v,H',Y,⟨_,λo=>?_,.inl ⟨a1,a5⟩⟩,a2,a3,a4⟩;rw[Zim AObj.backNew o m,<- Zzaa]
 by_cases ho:m.any (·.1==o)=true
 rw[if_pos ho];exact .inr (.inl rfl);rw[if_neg ho];exact .inr (.inr ⟨Bool.eq_false_iff.2 ho,rfl⟩)
end
end Go.Hs
