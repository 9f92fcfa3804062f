/- A part. No condition. -/
import Derived.Test.YtoahejkahaimnaaGreatDoorP21
set_option linter.all false
namespace Go.Hs
theorem Zg{F Q R:Prop}(f:F)(q:R)(h:F->R->Q:=by
  intro f z
  (try simp -implicitDefEqProofs only[go_sem,seval,↓reduceIte,f])
  repeat first
   |(refine Zne (by kernel_rfl) ?_;simp -implicitDefEqProofs only[go_sem,seval,↓reduceIte,f])
   |(refine AW.region (by kernel_rfl) ?_;simp -implicitDefEqProofs only[go_sem,seval,↓reduceIte,f])
   |refine Z6 ?_
   |refine AW.block ?_
   |refine Z2f rfl ?_
   |refine Zad rfl ?_
   |(refine AW.skip ?_;simp -implicitDefEqProofs only[go_sem,seval,↓reduceIte,f])
   |(refine AW.exit ?_;simp -implicitDefEqProofs only[go_sem,seval,↓reduceIte,f])
   |(refine AW.ret ?_;simp -implicitDefEqProofs only[go_sem,seval,↓reduceIte,f];refine Z6b ?_)
  exact z):Q:=h f q
theorem Zh{F Q:Prop}(f:F)(h:F->Q:=by
  intro f
  (try simp -implicitDefEqProofs only[go_sem,seval,↓reduceIte,f])
  repeat first
   |(refine Zne (by kernel_rfl) ?_;simp -implicitDefEqProofs only[go_sem,seval,↓reduceIte,f])
   |(refine AW.region (by kernel_rfl) ?_;simp -implicitDefEqProofs only[go_sem,seval,↓reduceIte,f])
   |refine Z6 ?_
   |refine AW.block ?_
   |refine Z2f rfl ?_
   |refine Zad rfl ?_
   |(refine AW.skip ?_;simp -implicitDefEqProofs only[go_sem,seval,↓reduceIte,f])
   |(refine AW.exit ?_;simp -implicitDefEqProofs only[go_sem,seval,↓reduceIte,f])
   |(refine AW.ret ?_;simp -implicitDefEqProofs only[go_sem,seval,↓reduceIte,f];refine Z6b ?_)
  rfl):Q:=h f
theorem Ze{P:Program}{G:Nat->V}{f:FuncId}{args args':List V}{H:Heap}{K:V->Heap->Prop}{K0:V->Prop}(hG:GOk G)(q:∀ v,K0 v->K (v.recol Col.bk) H)(e:Z2 P f=true:=by kernel_rfl)
  (ha:args.map (V.recol Col.ent)=args':=by simp -implicitDefEqProofs only[go_sem,seval,↓reduceIte,List.map_nil,List.map_cons];try rfl) (s:Spec P G f args' Zk (λv _=>K0 v)):CallA P G f args H K:=
 CallA.pure hG e (by rw[ha];exact s.mono λv _ hv=>q v hv)
end Go.Hs
