/- A part. No condition. -/
import Derived.Test.YtoahejkahaimnaaGreatDoorP20
set_option linter.all false
namespace Go.Hs
section
variable{P:Program}{E:Ent}
theorem Z6{x y:Code}{Q:Exit->AS->Prop}{s:AS}(h:AW P E x (Z7l (λs=>AW P E y Q s) Q) s):AW P E (.seq x y) Q s:=AW.seq h
@[congr] theorem AW_congq{c:Code}{Q:Exit->AS->Prop}{s s':AS}(h:s=s'):AW P E c Q s=AW P E c Q s':=by rw[h]
theorem Zne{id:Nat}{ops:Array Oper}{y:Code}{Q:Exit->AS->Prop}{s:AS}(hd:(ops.all (Z7b E.n))=true)(h:Zsa P E ops (Z7l (λs=>AW P E y Q s) Q .normal) ops.toList s):AW P E (.seq (.region id ops false) y) Q s:=Z6 (AW.region hd h)
theorem Z2f{c:Operand}{x y:Code}{Q:Exit->AS->Prop}{s:AS}(hc:s.ev E c=.bool true)(h:AW P E x Q s):AW P E (.cond c x y) Q s:=AW.cond hc (by simpa using h)
theorem Zad{c:Operand}{x y:Code}{Q:Exit->AS->Prop}{s:AS}(hc:s.ev E c=.bool false)(h:AW P E y Q s):AW P E (.cond c x y) Q s:=AW.cond hc (by simpa using h)
theorem zi{A B:Prop}(a:A)(b:B):A/\B:=⟨a,b⟩
theorem Z{Q R:Prop}(q:R)(h:R->Q:=by
  intro z
  repeat first
   |(refine Zne (by kernel_rfl) ?_;simp -implicitDefEqProofs only[go_sem,seval,↓reduceIte])
   |(refine AW.region (by kernel_rfl) ?_;simp -implicitDefEqProofs only[go_sem,seval,↓reduceIte])
   |refine Z6 ?_
   |refine AW.block ?_
   |refine Z2f rfl ?_
   |refine Zad rfl ?_
   |(refine AW.skip ?_;simp -implicitDefEqProofs only[go_sem,seval,↓reduceIte])
   |(refine AW.exit ?_;simp -implicitDefEqProofs only[go_sem,seval,↓reduceIte])
   |(refine AW.ret ?_;simp -implicitDefEqProofs only[go_sem,seval,↓reduceIte];refine Z6b ?_)
  exact z):Q:=h q
theorem Zf{F Q R:Prop}(f:F)(q:R)(h:F->R->Q:=by
  intro f z
  repeat first
   |(refine Zne (by kernel_rfl) ?_;simp -implicitDefEqProofs only[go_sem,seval,↓reduceIte,f])
   |(refine AW.region (by kernel_rfl) ?_;simp -implicitDefEqProofs only[go_sem,seval,↓reduceIte,f])
   |refine Z6 ?_
   |refine AW.block ?_
   |refine Z2f rfl ?_
   |refine Zad rfl ?_
   |(refine AW.skip ?_;simp -implicitDefEqProofs only[go_sem,seval,↓reduceIte,f])
   |(refine AW.exit ?_;simp -implicitDefEqProofs only[go_sem,seval,↓reduceIte,f])
   |(refine AW.ret ?_;simp -implicitDefEqProofs only[go_sem,seval,↓reduceIte,f];refine Z6b ?_)
  exact z):Q:=h f q
theorem Zr{Q:Prop}(h:Q:=by
  repeat first
   |(refine Zne (by kernel_rfl) ?_;simp -implicitDefEqProofs only[go_sem,seval,↓reduceIte])
   |(refine AW.region (by kernel_rfl) ?_;simp -implicitDefEqProofs only[go_sem,seval,↓reduceIte])
   |refine Z6 ?_
   |refine AW.block ?_
   |refine Z2f rfl ?_
   |refine Zad rfl ?_
   |(refine AW.skip ?_;simp -implicitDefEqProofs only[go_sem,seval,↓reduceIte])
   |(refine AW.exit ?_;simp -implicitDefEqProofs only[go_sem,seval,↓reduceIte])
   |(refine AW.ret ?_;simp -implicitDefEqProofs only[go_sem,seval,↓reduceIte];refine Z6b ?_)
  rfl):Q:=h
theorem Zq{F Q:Prop}(f:F)(h:F->Q:=by
  intro f
  repeat first
   |(refine Zne (by kernel_rfl) ?_;simp -implicitDefEqProofs only[go_sem,seval,↓reduceIte,f])
   |(refine AW.region (by kernel_rfl) ?_;simp -implicitDefEqProofs only[go_sem,seval,↓reduceIte,f])
   |refine Z6 ?_
   |refine AW.block ?_
   |refine Z2f rfl ?_
   |refine Zad rfl ?_
   |(refine AW.skip ?_;simp -implicitDefEqProofs only[go_sem,seval,↓reduceIte,f])
   |(refine AW.exit ?_;simp -implicitDefEqProofs only[go_sem,seval,↓reduceIte,f])
   |(refine AW.ret ?_;simp -implicitDefEqProofs only[go_sem,seval,↓reduceIte,f];refine Z6b ?_)
  rfl):Q:=h f
theorem Z1{Q R:Prop}(q:R)(h:R->Q:=by
  intro z
  repeat first
   |refine Z6 ?_
   |refine AW.block ?_
   |refine Z2f rfl ?_
   |refine Zad rfl ?_
   |(refine AW.skip ?_;simp -implicitDefEqProofs only[go_sem,seval,↓reduceIte])
   |(refine AW.exit ?_;simp -implicitDefEqProofs only[go_sem,seval,↓reduceIte])
  refine AW.region (by kernel_rfl) ?_;simp -implicitDefEqProofs only[go_sem,seval,↓reduceIte]
  exact z):Q:=h q
theorem Z1f{F Q R:Prop}(f:F)(q:R)(h:F->R->Q:=by
  intro f z
  repeat first
   |refine Z6 ?_
   |refine AW.block ?_
   |refine Z2f rfl ?_
   |refine Zad rfl ?_
   |(refine AW.skip ?_;simp -implicitDefEqProofs only[go_sem,seval,↓reduceIte,f])
   |(refine AW.exit ?_;simp -implicitDefEqProofs only[go_sem,seval,↓reduceIte,f])
  refine AW.region (by kernel_rfl) ?_;simp -implicitDefEqProofs only[go_sem,seval,↓reduceIte,f]
  exact z):Q:=h f q
theorem Z0{Q R:Prop}(q:R)(h:R->Q:=by
  intro z
  repeat first
   |refine Z2f rfl ?_
   |refine Zad rfl ?_
   |(refine AW.skip ?_;simp -implicitDefEqProofs only[go_sem,seval,↓reduceIte])
   |(refine AW.exit ?_;simp -implicitDefEqProofs only[go_sem,seval,↓reduceIte])
   |(refine AW.ret ?_;simp -implicitDefEqProofs only[go_sem,seval,↓reduceIte];refine Z6b ?_)
   |(refine Z6 ?_;first|refine Z2f rfl ?_|refine Zad rfl ?_|(refine AW.skip ?_;simp -implicitDefEqProofs only[go_sem,seval,↓reduceIte]))
   |(refine AW.block ?_;refine AW.exit ?_;simp -implicitDefEqProofs only[go_sem,seval,↓reduceIte])
  exact z):Q:=h q
theorem Z0f{F Q R:Prop}(f:F)(q:R)(h:F->R->Q:=by
  intro f z
  repeat first
   |refine Z2f rfl ?_
   |refine Zad rfl ?_
   |(refine AW.skip ?_;simp -implicitDefEqProofs only[go_sem,seval,↓reduceIte,f])
   |(refine AW.exit ?_;simp -implicitDefEqProofs only[go_sem,seval,↓reduceIte,f])
   |(refine AW.ret ?_;simp -implicitDefEqProofs only[go_sem,seval,↓reduceIte,f];refine Z6b ?_)
   |(refine Z6 ?_;first|refine Z2f rfl ?_|refine Zad rfl ?_|(refine AW.skip ?_;simp -implicitDefEqProofs only[go_sem,seval,↓reduceIte,f]))
   |(refine AW.block ?_;refine AW.exit ?_;simp -implicitDefEqProofs only[go_sem,seval,↓reduceIte,f])
  exact z):Q:=h f q
theorem Zs{Q R:Prop}(q:R)(h:R->Q:=by intro z;(try simp -implicitDefEqProofs only[go_sem,seval,↓reduceIte]);exact z):Q:=h q
theorem Zsf{F Q R:Prop}(f:F)(q:R)(h:F->R->Q:=by intro f z;(try simp -implicitDefEqProofs only[go_sem,seval,↓reduceIte,f]);exact z):Q:=h f q
theorem ZT{F Q R:Prop}(g:F)(q:R)(h:F->R->Q:=by
  intro g z
  repeat first
   |refine Z6 ?_
   |refine AW.block ?_
   |refine Z2f rfl ?_
   |refine Zad rfl ?_
   |(refine AW.skip ?_;simp -implicitDefEqProofs only[go_sem,seval,↓reduceIte])
   |(refine AW.exit ?_;simp -implicitDefEqProofs only[go_sem,seval,↓reduceIte])
  refine Zp ⟨λ_=>.top,λ_=>.pure⟩ (by kernel_rfl) g (by kernel_rfl) (by kernel_rfl) ?_;simp -implicitDefEqProofs only[go_sem,seval,↓reduceIte]
  exact z):Q:=h g q
theorem ZTf{F A Q R:Prop}(f:A)(g:F)(q:R)(h:A->F->R->Q:=by
  intro f g z
  repeat first
   |refine Z6 ?_
   |refine AW.block ?_
   |refine Z2f rfl ?_
   |refine Zad rfl ?_
   |(refine AW.skip ?_;simp -implicitDefEqProofs only[go_sem,seval,↓reduceIte])
   |(refine AW.exit ?_;simp -implicitDefEqProofs only[go_sem,seval,↓reduceIte])
  refine Zp ⟨λ_=>.top,λ_=>.pure⟩ (by kernel_rfl) g (by kernel_rfl) (by kernel_rfl) ?_;simp -implicitDefEqProofs only[go_sem,seval,↓reduceIte,f]
  exact z):Q:=h f g q
theorem Zo{G:Nat->V}{f:FuncId}{fn:Func}{c:Code}{args:List V}{H:Heap}{K:V->Heap->Prop}(q:Nat)(n:Nat)(rs:List ResultVar)(hf:P.funcs[f]?=some fn)(h:∀ X,AW P ⟨X,H,n,q,G,none,[],.plain⟩ c (Zeg P rs K) ⟨Zve 0 args,H⟩)
  (hb:fn.body=some c:=by rfl) (hn:fn.ntmps=n:=by rfl) (hr:fn.results.toList=rs:=by rfl) (hn0:Nat.ble args.length n=true:=by rfl):Spec P G f args H K:=Zst q n rs hf hb hn hr hn0 h
theorem zT{p:Prop}{_:Decidable p}(h:p:=by omega):decide p=true:=decide_eq_true h
theorem zF{p:Prop}{_:Decidable p}(h:¬p:=by omega):decide p=false:=decide_eq_false h
theorem zL{a b:Nat}(h:decide ((a:Int)<(b:Int))=true):a<b:=by have:=of_decide_eq_true h;omega
theorem zN{a b:Nat}(h:decide ((a:Int)<(b:Int))=false):b<=a:=by have:=of_decide_eq_false h;omega
theorem zp{Q:Prop}(h:Q:=by simp -implicitDefEqProofs only[go_sem,seval,↓reduceIte];try rfl):Q:=h
theorem zpf{F Q:Prop}(f:F)(h:F->Q:=by intro f;simp -implicitDefEqProofs only[go_sem,seval,↓reduceIte,f];try rfl):Q:=h f
theorem zw{Q:Prop}(h:Q:=by simp -implicitDefEqProofs only[go_sem,seval,↓reduceIte];exact congrArg _ (w64 (by omega) (by omega))):Q:=h
theorem Zc{G:Nat->V}{f:FuncId}{args args':List V}{H:Heap}{K:V->Heap->Prop}{r:V}{R:Prop}(hG:GOk G)(q:R)(e:Z2 P f=true:=by kernel_rfl)
  (ha:args.map (V.recol Col.ent)=args':=by simp -implicitDefEqProofs only[go_sem,seval,↓reduceIte,List.map_nil,List.map_cons];try rfl) (s:Spec P G f args' Zk (λv _=>v=r)) (h:R->K (r.recol Col.bk) H:=by
  intro z
  (try simp -implicitDefEqProofs only[go_sem,seval,↓reduceIte])
  exact z):CallA P G f args H K:=
 CallA.pure hG e (by rw[ha];exact s.mono λv _ hv=>by rw[hv];exact h q)
theorem Zcf{F:Prop}{G:Nat->V}{f:FuncId}{args args':List V}{H:Heap}{K:V->Heap->Prop}{r:V}{R:Prop}(fc:F)(hG:GOk G)(q:R)(e:Z2 P f=true:=by kernel_rfl)
  (ha:F->args.map (V.recol Col.ent)=args':=by intro f;simp -implicitDefEqProofs only[go_sem,seval,↓reduceIte,List.map_nil,List.map_cons,f];try rfl) (s:Spec P G f args' Zk (λv _=>v=r)) (h:R->K (r.recol Col.bk) H:=by
  intro z
  (try simp -implicitDefEqProofs only[go_sem,seval,↓reduceIte])
  exact z):CallA P G f args H K:=
 CallA.pure hG e (by rw[ha fc];exact s.mono λv _ hv=>by rw[hv];exact h q)
theorem Zn{G:Nat->V}{f:FuncId}{args args':List V}{H:Heap}{K:V->Heap->Prop}{r:V}(hG:GOk G)(q:K (r.recol Col.bk) H)(e:Z2 P f=true:=by kernel_rfl)
  (ha:args.map (V.recol Col.ent)=args':=by simp -implicitDefEqProofs only[go_sem,seval,↓reduceIte,List.map_nil,List.map_cons];try rfl) (s:Spec P G f args' Zk (λv _=>v=r)):CallA P G f args H K:=
 CallA.pure hG e (by rw[ha];exact s.mono λv _ hv=>by rw[hv];exact q)
theorem Znf{F:Prop}{G:Nat->V}{f:FuncId}{args args':List V}{H:Heap}{K:V->Heap->Prop}{r:V}(fc:F)(hG:GOk G)(q:K (r.recol Col.bk) H)(e:Z2 P f=true:=by kernel_rfl)
  (ha:F->args.map (V.recol Col.ent)=args':=by intro f;simp -implicitDefEqProofs only[go_sem,seval,↓reduceIte,List.map_nil,List.map_cons,f];try rfl) (s:Spec P G f args' Zk (λv _=>v=r)):CallA P G f args H K:=
 CallA.pure hG e (by rw[ha fc];exact s.mono λv _ hv=>by rw[hv];exact q)
theorem zr{Q:Prop}(h:Q:=by first|rfl|(simp -implicitDefEqProofs only[go_sem,seval,↓reduceIte];try rfl)):Q:=h
theorem zm{Q:Prop}(h:Q:=by first|rfl|(simp -implicitDefEqProofs only[go_sem,seval,↓reduceIte,List.map_cons,List.map_nil];try rfl)):Q:=h
theorem zx{Q:Prop}(h:Q:=by first|rfl|(simp -implicitDefEqProofs only[go_sem,seval,↓reduceIte,List.map_cons,List.map_nil,Znd];try rfl)):Q:=h
theorem Zu{Q R:Prop}(q:R)(h:R->Q:=by intro z;(try simp -implicitDefEqProofs only[go_sem,seval,↓reduceIte,Zfa]);exact z):Q:=h q
theorem zk{Q:Prop}(h:Q:=by kernel_rfl):Q:=h
end
end Go.Hs
