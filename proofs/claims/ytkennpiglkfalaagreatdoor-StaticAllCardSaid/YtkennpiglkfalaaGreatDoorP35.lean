/- A part. No condition. -/
import Derived.Test.YtkennpiglkfalaaGreatDoorP19
set_option linter.all false
namespace Go.Hs
def Zg{F Q R:Prop}(f:F)(q:R)(h:F->R->Q:=by
  intro f z
  (try simp -implicitDefEqProofs only[go_sem,seval,↓reduceIte,f])
  repeat first
   |(refine Wo zk ?_;simp -implicitDefEqProofs only[go_sem,seval,↓reduceIte,f])|(refine CA zk ?_;simp -implicitDefEqProofs only[go_sem,seval,↓reduceIte,f])|refine Zz ?_|refine BK ?_|refine W7 rfl ?_|refine Xh rfl ?_|(refine EP ?_;simp -implicitDefEqProofs only[go_sem,seval,↓reduceIte,f])|(refine FO ?_;simp -implicitDefEqProofs only[go_sem,seval,↓reduceIte,f])|(refine FU ?_;simp -implicitDefEqProofs only[go_sem,seval,↓reduceIte,f];refine Yk ?_)
  exact z):Q:=h f q
def Zh{F Q:Prop}(f:F)(h:F->Q:=by
  intro f
  (try simp -implicitDefEqProofs only[go_sem,seval,↓reduceIte,f])
  repeat first
   |(refine Wo zk ?_;simp -implicitDefEqProofs only[go_sem,seval,↓reduceIte,f])|(refine CA zk ?_;simp -implicitDefEqProofs only[go_sem,seval,↓reduceIte,f])|refine Zz ?_|refine BK ?_|refine W7 rfl ?_|refine Xh rfl ?_|(refine EP ?_;simp -implicitDefEqProofs only[go_sem,seval,↓reduceIte,f])|(refine FO ?_;simp -implicitDefEqProofs only[go_sem,seval,↓reduceIte,f])|(refine FU ?_;simp -implicitDefEqProofs only[go_sem,seval,↓reduceIte,f];refine Yk ?_)
  rfl):Q:=h f
def Ze{P:Program}{G:Nat->V}{f:FuncId}{a args':List V}{H:A'}{K:V->A'->Prop}{b:V->Prop}(d:Yy G)(q:∀ v,b v->K (v.recol AH.bk) H)(e:Yf P f=true:=by kernel_rfl)(ha:a.map (V.recol AH.ent)=args':=by simp -implicitDefEqProofs only[go_sem,seval,↓reduceIte];try rfl)(s:Spec P G f args' Zm (λv _=>b v)):CallA P G f a H K:=
 GS d e (by rw[ha];exact s.mono λv _ c=>q v c)
