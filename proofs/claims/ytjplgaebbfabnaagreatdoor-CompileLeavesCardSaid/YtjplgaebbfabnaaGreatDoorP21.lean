/- A part. No condition. -/
import Derived.Test.YtjplgaebbfabnaaGreatDoorP20
set_option linter.all false
namespace Go.Hs
section
variable{P:Program}{E:Ent}
theorem Z6{x y:Code}{Q:Exit->AS->Prop}{s:AS}(h:AW P E x (N7 (λs=>AW P E y Q s) Q) s):AW P E (.seq x y) Q s:=AW.seq h
@[congr] theorem AW_congq{c:Code}{Q:Exit->AS->Prop}{s s':AS}(h:s=s'):AW P E c Q s=AW P E c Q s':=by rw[h]
theorem Ua{id:Nat}{ops:Array Oper}{y:Code}{Q:Exit->AS->Prop}{s:AS}(a:(ops.all (Wo E.n))=true)(h:Yt P E ops (N7 (λs=>AW P E y Q s) Q .normal) ops.toList s):AW P E (.seq (.region id ops false) y) Q s:=Z6 (AW.region a h)
theorem T8{c:Operand}{x y:Code}{Q:Exit->AS->Prop}{s:AS}(a:s.ev E c=.bool true)(h:AW P E x Q s):AW P E (.cond c x y) Q s:=AW.cond a (by simpa using h)
theorem Ve{c:Operand}{x y:Code}{Q:Exit->AS->Prop}{s:AS}(a:s.ev E c=.bool false)(h:AW P E y Q s):AW P E (.cond c x y) Q s:=AW.cond a (by simpa using h)
theorem zi{A B:Prop}(a:A)(b:B):A/\B:=⟨a,b⟩
theorem Z{Q R:Prop}(q:R)(h:R->Q:=by
  intro z
  repeat first
   |(refine Ua (by kernel_rfl) ?_;simp -implicitDefEqProofs only[go_sem,seval,↓reduceIte])
   |(refine AW.region (by kernel_rfl) ?_;simp -implicitDefEqProofs only[go_sem,seval,↓reduceIte])
   |refine Z6 ?_
   |refine AW.block ?_
   |refine T8 rfl ?_
   |refine Ve rfl ?_
   |(refine AW.skip ?_;simp -implicitDefEqProofs only[go_sem,seval,↓reduceIte])
   |(refine AW.exit ?_;simp -implicitDefEqProofs only[go_sem,seval,↓reduceIte])
   |(refine AW.ret ?_;simp -implicitDefEqProofs only[go_sem,seval,↓reduceIte];refine Vn ?_)
  exact z):Q:=h q
theorem Zf{F Q R:Prop}(f:F)(q:R)(h:F->R->Q:=by
  intro f z
  repeat first
   |(refine Ua (by kernel_rfl) ?_;simp -implicitDefEqProofs only[go_sem,seval,↓reduceIte,f])
   |(refine AW.region (by kernel_rfl) ?_;simp -implicitDefEqProofs only[go_sem,seval,↓reduceIte,f])
   |refine Z6 ?_
   |refine AW.block ?_
   |refine T8 rfl ?_
   |refine Ve rfl ?_
   |(refine AW.skip ?_;simp -implicitDefEqProofs only[go_sem,seval,↓reduceIte,f])
   |(refine AW.exit ?_;simp -implicitDefEqProofs only[go_sem,seval,↓reduceIte,f])
   |(refine AW.ret ?_;simp -implicitDefEqProofs only[go_sem,seval,↓reduceIte,f];refine Vn ?_)
  exact z):Q:=h f q
theorem Zr{Q:Prop}(h:Q:=by
  repeat first
   |(refine Ua (by kernel_rfl) ?_;simp -implicitDefEqProofs only[go_sem,seval,↓reduceIte])
   |(refine AW.region (by kernel_rfl) ?_;simp -implicitDefEqProofs only[go_sem,seval,↓reduceIte])
   |refine Z6 ?_
   |refine AW.block ?_
   |refine T8 rfl ?_
   |refine Ve rfl ?_
   |(refine AW.skip ?_;simp -implicitDefEqProofs only[go_sem,seval,↓reduceIte])
   |(refine AW.exit ?_;simp -implicitDefEqProofs only[go_sem,seval,↓reduceIte])
   |(refine AW.ret ?_;simp -implicitDefEqProofs only[go_sem,seval,↓reduceIte];refine Vn ?_)
  rfl):Q:=h
theorem Zq{F Q:Prop}(f:F)(h:F->Q:=by
  intro f
  repeat first
   |(refine Ua (by kernel_rfl) ?_;simp -implicitDefEqProofs only[go_sem,seval,↓reduceIte,f])
   |(refine AW.region (by kernel_rfl) ?_;simp -implicitDefEqProofs only[go_sem,seval,↓reduceIte,f])
   |refine Z6 ?_
   |refine AW.block ?_
   |refine T8 rfl ?_
   |refine Ve rfl ?_
   |(refine AW.skip ?_;simp -implicitDefEqProofs only[go_sem,seval,↓reduceIte,f])
   |(refine AW.exit ?_;simp -implicitDefEqProofs only[go_sem,seval,↓reduceIte,f])
   |(refine AW.ret ?_;simp -implicitDefEqProofs only[go_sem,seval,↓reduceIte,f];refine Vn ?_)
  rfl):Q:=h f
theorem Z1{Q R:Prop}(q:R)(h:R->Q:=by
  intro z
  repeat first
   |refine Z6 ?_
   |refine AW.block ?_
   |refine T8 rfl ?_
   |refine Ve rfl ?_
   |(refine AW.skip ?_;simp -implicitDefEqProofs only[go_sem,seval,↓reduceIte])
   |(refine AW.exit ?_;simp -implicitDefEqProofs only[go_sem,seval,↓reduceIte])
  refine AW.region (by kernel_rfl) ?_;simp -implicitDefEqProofs only[go_sem,seval,↓reduceIte]
  exact z):Q:=h q
theorem Xm{F Q R:Prop}(f:F)(q:R)(h:F->R->Q:=by
  intro f z
  repeat first
   |refine Z6 ?_
   |refine AW.block ?_
   |refine T8 rfl ?_
   |refine Ve rfl ?_
   |(refine AW.skip ?_;simp -implicitDefEqProofs only[go_sem,seval,↓reduceIte,f])
   |(refine AW.exit ?_;simp -implicitDefEqProofs only[go_sem,seval,↓reduceIte,f])
  refine AW.region (by kernel_rfl) ?_;simp -implicitDefEqProofs only[go_sem,seval,↓reduceIte,f]
  exact z):Q:=h f q
theorem Z0{Q R:Prop}(q:R)(h:R->Q:=by
  intro z
  repeat first
   |refine T8 rfl ?_
   |refine Ve rfl ?_
   |(refine AW.skip ?_;simp -implicitDefEqProofs only[go_sem,seval,↓reduceIte])
   |(refine AW.exit ?_;simp -implicitDefEqProofs only[go_sem,seval,↓reduceIte])
   |(refine AW.ret ?_;simp -implicitDefEqProofs only[go_sem,seval,↓reduceIte];refine Vn ?_)
   |(refine Z6 ?_;first|refine T8 rfl ?_|refine Ve rfl ?_|(refine AW.skip ?_;simp -implicitDefEqProofs only[go_sem,seval,↓reduceIte]))
   |(refine AW.block ?_;refine AW.exit ?_;simp -implicitDefEqProofs only[go_sem,seval,↓reduceIte])
  exact z):Q:=h q
theorem Z0f{F Q R:Prop}(f:F)(q:R)(h:F->R->Q:=by
  intro f z
  repeat first
   |refine T8 rfl ?_
   |refine Ve rfl ?_
   |(refine AW.skip ?_;simp -implicitDefEqProofs only[go_sem,seval,↓reduceIte,f])
   |(refine AW.exit ?_;simp -implicitDefEqProofs only[go_sem,seval,↓reduceIte,f])
   |(refine AW.ret ?_;simp -implicitDefEqProofs only[go_sem,seval,↓reduceIte,f];refine Vn ?_)
   |(refine Z6 ?_;first|refine T8 rfl ?_|refine Ve rfl ?_|(refine AW.skip ?_;simp -implicitDefEqProofs only[go_sem,seval,↓reduceIte,f]))
   |(refine AW.block ?_;refine AW.exit ?_;simp -implicitDefEqProofs only[go_sem,seval,↓reduceIte,f])
  exact z):Q:=h f q
theorem Zs{Q R:Prop}(q:R)(h:R->Q:=by intro z;(try simp -implicitDefEqProofs only[go_sem,seval,↓reduceIte]);exact z):Q:=h q
theorem Xr{F Q R:Prop}(f:F)(q:R)(h:F->R->Q:=by intro f z;(try simp -implicitDefEqProofs only[go_sem,seval,↓reduceIte,f]);exact z):Q:=h f q
theorem ZT{F Q R:Prop}(g:F)(q:R)(h:F->R->Q:=by
  intro g z
  repeat first
   |refine Z6 ?_
   |refine AW.block ?_
   |refine T8 rfl ?_
   |refine Ve rfl ?_
   |(refine AW.skip ?_;simp -implicitDefEqProofs only[go_sem,seval,↓reduceIte])
   |(refine AW.exit ?_;simp -implicitDefEqProofs only[go_sem,seval,↓reduceIte])
  refine Zy ⟨λ_=>.top,λ_=>.pure⟩ (by kernel_rfl) g (by kernel_rfl) (by kernel_rfl) ?_;simp -implicitDefEqProofs only[go_sem,seval,↓reduceIte]
  exact z):Q:=h g q
theorem I7{F A Q R:Prop}(f:A)(g:F)(q:R)(h:A->F->R->Q:=by
  intro f g z
  repeat first
   |refine Z6 ?_
   |refine AW.block ?_
   |refine T8 rfl ?_
   |refine Ve rfl ?_
   |(refine AW.skip ?_;simp -implicitDefEqProofs only[go_sem,seval,↓reduceIte])
   |(refine AW.exit ?_;simp -implicitDefEqProofs only[go_sem,seval,↓reduceIte])
  refine Zy ⟨λ_=>.top,λ_=>.pure⟩ (by kernel_rfl) g (by kernel_rfl) (by kernel_rfl) ?_;simp -implicitDefEqProofs only[go_sem,seval,↓reduceIte,f]
  exact z):Q:=h f g q
theorem Zo{G:Nat->V}{f:FuncId}{a:Func}{c:Code}{args:List V}{H:Heap}{K:V->Heap->Prop}(q:Nat)(n:Nat)(b:List ResultVar)(i:P.funcs[f]?=some a)(h:∀ X,AW P ⟨X,H,n,q,G,none,[],.plain⟩ c (T3 P b K) ⟨Uy 0 args,H⟩)
  (j:a.body=some c:=by rfl) (g:a.ntmps=n:=by rfl) (e:a.results.toList=b:=by rfl) (d:Nat.ble args.length n=true:=by rfl):Spec P G f args H K:=A6 q n b i j g e d h
theorem zT{p:Prop}{_:Decidable p}(h:p:=by omega):decide p=true:=decide_eq_true h
theorem zF{p:Prop}{_:Decidable p}(h:¬p:=by omega):decide p=false:=decide_eq_false h
theorem zL{a b:Nat}(h:decide ((a:Int)<(b:Int))=true):a<b:=by have:=of_decide_eq_true h;omega
theorem zN{a b:Nat}(h:decide ((a:Int)<(b:Int))=false):b<=a:=by have:=of_decide_eq_false h;omega
theorem zp{Q:Prop}(h:Q:=by simp -implicitDefEqProofs only[go_sem,seval,↓reduceIte];try rfl):Q:=h
theorem T9{F Q:Prop}(f:F)(h:F->Q:=by intro f;simp -implicitDefEqProofs only[go_sem,seval,↓reduceIte,f];try rfl):Q:=h f
theorem zw{Q:Prop}(h:Q:=by simp -implicitDefEqProofs only[go_sem,seval,↓reduceIte];exact congrArg _ (Wy (by omega) (by omega))):Q:=h
theorem Zc{G:Nat->V}{f:FuncId}{args args':List V}{H:Heap}{K:V->Heap->Prop}{r:V}{R:Prop}(b:Y6 G)(q:R)(e:Z7 P f=true:=by kernel_rfl)
  (ha:args.map (V.recol Col.ent)=args':=by simp -implicitDefEqProofs only[go_sem,seval,↓reduceIte];try rfl) (s:Spec P G f args' Zj (λv _=>v=r)) (h:R->K (r.recol Col.bk) H:=by
  intro z
  (try simp -implicitDefEqProofs only[go_sem,seval,↓reduceIte])
  exact z):CallA P G f args H K:=
 CallA.pure b e (by rw[ha];exact s.mono λv _ a=>by rw[a];exact h q)
theorem Zcf{F:Prop}{G:Nat->V}{f:FuncId}{args args':List V}{H:Heap}{K:V->Heap->Prop}{r:V}{R:Prop}(c:F)(b:Y6 G)(q:R)(e:Z7 P f=true:=by kernel_rfl)
  (ha:F->args.map (V.recol Col.ent)=args':=by intro f;simp -implicitDefEqProofs only[go_sem,seval,↓reduceIte,f];try rfl) (s:Spec P G f args' Zj (λv _=>v=r)) (h:R->K (r.recol Col.bk) H:=by
  intro z
  (try simp -implicitDefEqProofs only[go_sem,seval,↓reduceIte])
  exact z):CallA P G f args H K:=
 CallA.pure b e (by rw[ha c];exact s.mono λv _ a=>by rw[a];exact h q)
theorem Zn{G:Nat->V}{f:FuncId}{args args':List V}{H:Heap}{K:V->Heap->Prop}{r:V}(b:Y6 G)(q:K (r.recol Col.bk) H)(e:Z7 P f=true:=by kernel_rfl)
  (ha:args.map (V.recol Col.ent)=args':=by simp -implicitDefEqProofs only[go_sem,seval,↓reduceIte];try rfl) (s:Spec P G f args' Zj (λv _=>v=r)):CallA P G f args H K:=
 CallA.pure b e (by rw[ha];exact s.mono λv _ a=>by rw[a];exact q)
theorem Znf{F:Prop}{G:Nat->V}{f:FuncId}{args args':List V}{H:Heap}{K:V->Heap->Prop}{r:V}(c:F)(b:Y6 G)(q:K (r.recol Col.bk) H)(e:Z7 P f=true:=by kernel_rfl)
  (ha:F->args.map (V.recol Col.ent)=args':=by intro f;simp -implicitDefEqProofs only[go_sem,seval,↓reduceIte,f];try rfl) (s:Spec P G f args' Zj (λv _=>v=r)):CallA P G f args H K:=
 CallA.pure b e (by rw[ha c];exact s.mono λv _ a=>by rw[a];exact q)
theorem zr{Q:Prop}(h:Q:=by first|rfl|(simp -implicitDefEqProofs only[go_sem,seval,↓reduceIte];try rfl)):Q:=h
theorem zm{Q:Prop}(h:Q:=by first|rfl|(simp -implicitDefEqProofs only[go_sem,seval,↓reduceIte];try rfl)):Q:=h
theorem zx{Q:Prop}(h:Q:=by first|rfl|(simp -implicitDefEqProofs only[go_sem,seval,↓reduceIte,Ux];try rfl)):Q:=h
theorem Zu{Q R:Prop}(q:R)(h:R->Q:=by intro z;(try simp -implicitDefEqProofs only[go_sem,seval,↓reduceIte,Z5]);exact z):Q:=h q
theorem Yh:(∀n:Nat,0<=(n:Int))/\(∀{n m:Nat},(n:Int)<m↔n<m):=⟨@Int.natCast_nonneg,@Int.ofNat_lt⟩
theorem zq{P Q:Prop}(f:P)(h:P->Q:=by intro z;simp -implicitDefEqProofs only[go_sem,seval,z,↓reduceIte];try rfl):Q:=h f
end
end Go.Hs
