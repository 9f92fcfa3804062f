/- A part. No condition. -/
import Derived.Test.YtjplgaebbfabnaaGreatDoorP21
set_option linter.all false
namespace Go.Hs
theorem Zg{F Q R:Prop}(f:F)(q:R)(h:F->R->Q:=by
  intro f z
  (try simp -implicitDefEqProofs only[go_sem,seval,↓reduceIte,f])
  repeat first
   |(refine Ua (by kernel_rfl) ?_;simp -implicitDefEqProofs only[go_sem,seval,↓reduceIte,f])
   |(refine AW.region (by kernel_rfl) ?_;simp -implicitDefEqProofs only[go_sem,seval,↓reduceIte,f])
   |refine Z6 ?_
   |refine AW.block ?_
   |refine T8 rfl ?_
   |refine Ve rfl ?_
   |(refine AW.skip ?_;simp -implicitDefEqProofs only[go_sem,seval,↓reduceIte,f])
   |(refine AW.exit ?_;simp -implicitDefEqProofs only[go_sem,seval,↓reduceIte,f])
   |(refine AW.ret ?_;simp -implicitDefEqProofs only[go_sem,seval,↓reduceIte,f];refine Vn ?_)
  exact z):Q:=h f q
theorem Zh{F Q:Prop}(f:F)(h:F->Q:=by
  intro f
  (try simp -implicitDefEqProofs only[go_sem,seval,↓reduceIte,f])
  repeat first
   |(refine Ua (by kernel_rfl) ?_;simp -implicitDefEqProofs only[go_sem,seval,↓reduceIte,f])
   |(refine AW.region (by kernel_rfl) ?_;simp -implicitDefEqProofs only[go_sem,seval,↓reduceIte,f])
   |refine Z6 ?_
   |refine AW.block ?_
   |refine T8 rfl ?_
   |refine Ve rfl ?_
   |(refine AW.skip ?_;simp -implicitDefEqProofs only[go_sem,seval,↓reduceIte,f])
   |(refine AW.exit ?_;simp -implicitDefEqProofs only[go_sem,seval,↓reduceIte,f])
   |(refine AW.ret ?_;simp -implicitDefEqProofs only[go_sem,seval,↓reduceIte,f];refine Vn ?_)
  rfl):Q:=h f
theorem Ze{P:Program}{G:Nat->V}{f:FuncId}{args args':List V}{H:Heap}{K:V->Heap->Prop}{a:V->Prop}(c:Y6 G)(q:∀ v,a v->K (v.recol Col.bk) H)(e:Z7 P f=true:=by kernel_rfl)
  (ha:args.map (V.recol Col.ent)=args':=by simp -implicitDefEqProofs only[go_sem,seval,↓reduceIte];try rfl) (s:Spec P G f args' Zj (λv _=>a v)):CallA P G f args H K:=
 CallA.pure c e (by rw[ha];exact s.mono λv _ b=>q v b)
end Go.Hs
