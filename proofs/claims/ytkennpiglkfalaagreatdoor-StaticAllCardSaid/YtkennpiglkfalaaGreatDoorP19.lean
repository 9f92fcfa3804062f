/- A part. No condition. -/
import Derived.Test.YtkennpiglkfalaaGreatDoorP18
set_option linter.all false
open Bool renaming false->ab,true->ad
namespace Go.Hs
section
variable{P:Program}{E:BX}
def Zz{x y:Code}{Q:Exit->AS->Prop}{s:AS}(h:AW P E x (O0 (λs=>AW P E y Q s) Q) s):AW P E (.seq x y) Q s:=AW.seq h
@[congr] def AC8{c:Code}{Q:Exit->AS->Prop}{s s':AS}(h:s=s'):AW P E c Q s=AW P E c Q s':=by rw[h]
def Wo{id:Nat}{ops:Array Oper}{y:Code}{Q:Exit->AS->Prop}{s:AS}(a:(ops.all (W4 E.n))=ad)(h:Yx P E ops (O0 (λs=>AW P E y Q s) Q .normal) ops.toList s):AW P E (.seq (.region id ops ab) y) Q s:=Zz (CA a h)
def W7{c:Operand}{x y:Code}{Q:Exit->AS->Prop}{s:AS}(a:s.ev E c=.bool ad)(h:AW P E x Q s):AW P E (.cond c x y) Q s:=AW.cond a (by simpa using h)
def Xh{c:Operand}{x y:Code}{Q:Exit->AS->Prop}{s:AS}(a:s.ev E c=.bool ab)(h:AW P E y Q s):AW P E (.cond c x y) Q s:=AW.cond a (by simpa using h)
def zi{A B:Prop}(a:A)(b:B):A/\B:=⟨a,b⟩
def Zf{F Q R:Prop}(f:F)(q:R)(h:F->R->Q:=by
  intro f z
  repeat first
   |(refine Wo (by kernel_rfl) ?_;simp -implicitDefEqProofs only[go_sem,seval,↓reduceIte,f])
   |(refine CA (by kernel_rfl) ?_;simp -implicitDefEqProofs only[go_sem,seval,↓reduceIte,f])
   |refine Zz ?_
   |refine BK ?_
   |refine W7 rfl ?_
   |refine Xh rfl ?_
   |(refine EP ?_;simp -implicitDefEqProofs only[go_sem,seval,↓reduceIte,f])
   |(refine FO ?_;simp -implicitDefEqProofs only[go_sem,seval,↓reduceIte,f])
   |(refine FU ?_;simp -implicitDefEqProofs only[go_sem,seval,↓reduceIte,f];refine Yk ?_)
  exact z):Q:=h f q
def Zq{F Q:Prop}(f:F)(h:F->Q:=by intro f;refine Zf f ?_;rfl):Q:=h f
def Zr{Q:Prop}(h:Q:=by refine Zf trivial ?_;rfl):Q:=h
def Z{Q R:Prop}(q:R)(h:R->Q:=by intro z;refine Zf trivial ?_;exact z):Q:=h q
def Ym{F Q R:Prop}(f:F)(q:R)(h:F->R->Q:=by
  intro f z
  repeat first
   |refine Zz ?_
   |refine BK ?_
   |refine W7 rfl ?_
   |refine Xh rfl ?_
   |(refine EP ?_;simp -implicitDefEqProofs only[go_sem,seval,↓reduceIte,f])
   |(refine FO ?_;simp -implicitDefEqProofs only[go_sem,seval,↓reduceIte,f])
  refine CA (by kernel_rfl) ?_;simp -implicitDefEqProofs only[go_sem,seval,↓reduceIte,f]
  exact z):Q:=h f q
def Z1{Q R:Prop}(q:R)(h:R->Q:=by intro z;refine Ym trivial ?_;exact z):Q:=h q
def H_{F Q R:Prop}(f:F)(q:R)(h:F->R->Q:=by
  intro f z
  repeat first
   |refine W7 rfl ?_
   |refine Xh rfl ?_
   |(refine EP ?_;simp -implicitDefEqProofs only[go_sem,seval,↓reduceIte,f])
   |(refine FO ?_;simp -implicitDefEqProofs only[go_sem,seval,↓reduceIte,f])
   |(refine FU ?_;simp -implicitDefEqProofs only[go_sem,seval,↓reduceIte,f];refine Yk ?_)
   |(refine Zz ?_;first|refine W7 rfl ?_|refine Xh rfl ?_|(refine EP ?_;simp -implicitDefEqProofs only[go_sem,seval,↓reduceIte,f]))
   |(refine BK ?_;refine FO ?_;simp -implicitDefEqProofs only[go_sem,seval,↓reduceIte,f])
  exact z):Q:=h f q
def Z0{Q R:Prop}(q:R)(h:R->Q:=by intro z;refine H_ trivial ?_;exact z):Q:=h q
def Zs{Q R:Prop}(q:R)(h:R->Q:=by intro z;(try simp -implicitDefEqProofs only[go_sem,seval,↓reduceIte]);exact z):Q:=h q
def Xc{F Q R:Prop}(f:F)(q:R)(h:F->R->Q:=by intro f z;(try simp -implicitDefEqProofs only[go_sem,seval,↓reduceIte,f]);exact z):Q:=h f q
def Pr{F A Q R:Prop}(f:A)(g:F)(q:R)(h:A->F->R->Q:=by
  intro f g z
  repeat first
   |refine Zz ?_
   |refine BK ?_
   |refine W7 rfl ?_
   |refine Xh rfl ?_
   |(refine EP ?_;simp -implicitDefEqProofs only[go_sem,seval,↓reduceIte])
   |(refine FO ?_;simp -implicitDefEqProofs only[go_sem,seval,↓reduceIte])
  refine Zv ⟨λ_=>.top,λ_=>.pure⟩ (by kernel_rfl) g (by kernel_rfl) (by kernel_rfl) ?_;simp -implicitDefEqProofs only[go_sem,seval,↓reduceIte,f]
  exact z):Q:=h f g q
def ZT{F Q R:Prop}(g:F)(q:R)(h:F->R->Q:=by intro g z;refine Pr trivial g ?_;exact z):Q:=h g q
def Zo{G:Nat->V}{f:FuncId}{b:Func}{c:Code}{a:List V}{H:A'}{K:V->A'->Prop}(q:Nat)(n:Nat)(d:List ResultVar)(j:P.funcs[f]?=some b)(h:∀ X,AW P ⟨X,H,n,q,G,none,[],.plain⟩ c (Rf P d K) ⟨Tq 0 a,H⟩)(k:b.body=some c:=by rfl)(i:b.ntmps=n:=by rfl)(g:b.results.toList=d:=by rfl)(e:Nat.ble a.length n=ad:=by rfl):Spec P G f a H K:=Hg q n d j k i g e h
def zT{p:Prop}{_:Decidable p}(h:p:=by omega):decide p=ad:=EI h
def zF{p:Prop}{_:Decidable p}(h:¬p:=by omega):decide p=ab:=GC h
def zL{a b:Nat}(h:decide ((a:Int)<(b:Int))=ad):a<b:=by have:=JC h;omega
def zN{a b:Nat}(h:decide ((a:Int)<(b:Int))=ab):b<=a:=by have:=SJ h;omega
def zp{Q:Prop}(h:Q:=by simp -implicitDefEqProofs only[go_sem,seval,↓reduceIte];try rfl):Q:=h
def Vw{F Q:Prop}(f:F)(h:F->Q:=by intro f;simp -implicitDefEqProofs only[go_sem,seval,↓reduceIte,f];try rfl):Q:=h f
def zw{Q:Prop}(h:Q:=by simp -implicitDefEqProofs only[go_sem,seval,↓reduceIte];exact BU _ (Xi (by omega) (by omega))):Q:=h
def Zc{G:Nat->V}{f:FuncId}{a args':List V}{H:A'}{K:V->A'->Prop}{r:V}{R:Prop}(c:Yy G)(q:R)(e:Yf P f=ad:=by kernel_rfl)(ha:a.map (V.recol AH.ent)=args':=by simp -implicitDefEqProofs only[go_sem,seval,↓reduceIte];try rfl)(s:Spec P G f args' Zm (λv _=>v=r))(h:R->K (r.recol AH.bk) H:=by
  intro z
  (try simp -implicitDefEqProofs only[go_sem,seval,↓reduceIte])
  exact z):CallA P G f a H K:=
 GS c e (by rw[ha];exact s.mono λv _ b=>by rw[b];exact h q)
def Co{F:Prop}{G:Nat->V}{f:FuncId}{a args':List V}{H:A'}{K:V->A'->Prop}{r:V}{R:Prop}(d:F)(c:Yy G)(q:R)(e:Yf P f=ad:=by kernel_rfl)(ha:F->a.map (V.recol AH.ent)=args':=by intro f;simp -implicitDefEqProofs only[go_sem,seval,↓reduceIte,f];try rfl)(s:Spec P G f args' Zm (λv _=>v=r))(h:R->K (r.recol AH.bk) H:=by
  intro z
  (try simp -implicitDefEqProofs only[go_sem,seval,↓reduceIte])
  exact z):CallA P G f a H K:=
 GS c e (by rw[ha d];exact s.mono λv _ b=>by rw[b];exact h q)
def Zn{G:Nat->V}{f:FuncId}{a args':List V}{H:A'}{K:V->A'->Prop}{r:V}(c:Yy G)(q:K (r.recol AH.bk) H)(e:Yf P f=ad:=by kernel_rfl)(ha:a.map (V.recol AH.ent)=args':=by simp -implicitDefEqProofs only[go_sem,seval,↓reduceIte];try rfl)(s:Spec P G f args' Zm (λv _=>v=r)):CallA P G f a H K:=
 GS c e (by rw[ha];exact s.mono λv _ b=>by rw[b];exact q)
def GW{F:Prop}{G:Nat->V}{f:FuncId}{a args':List V}{H:A'}{K:V->A'->Prop}{r:V}(d:F)(c:Yy G)(q:K (r.recol AH.bk) H)(e:Yf P f=ad:=by kernel_rfl)(ha:F->a.map (V.recol AH.ent)=args':=by intro f;simp -implicitDefEqProofs only[go_sem,seval,↓reduceIte,f];try rfl)(s:Spec P G f args' Zm (λv _=>v=r)):CallA P G f a H K:=
 GS c e (by rw[ha d];exact s.mono λv _ b=>by rw[b];exact q)
def zr{Q:Prop}(h:Q:=by first|rfl|(simp -implicitDefEqProofs only[go_sem,seval,↓reduceIte];try rfl)):Q:=h
def zm{Q:Prop}(h:Q:=by first|rfl|(simp -implicitDefEqProofs only[go_sem,seval,↓reduceIte];try rfl)):Q:=h
def zx{Q:Prop}(h:Q:=by first|rfl|(simp -implicitDefEqProofs only[go_sem,seval,↓reduceIte,X7];try rfl)):Q:=h
def Zu{Q R:Prop}(q:R)(h:R->Q:=by intro z;(try simp -implicitDefEqProofs only[go_sem,seval,↓reduceIte,Yb]);exact z):Q:=h q
def Ya:(∀n:Nat,0<=(n:Int))/\(∀{n m:Nat},(n:Int)<m↔n<m):=⟨@DS,@GY⟩
def zq{P Q:Prop}(f:P)(h:P->Q:=by intro z;simp -implicitDefEqProofs only[go_sem,seval,z,↓reduceIte];try rfl):Q:=h f
end
section
variable{A B C D E F G H I J K L M N O P Q R S T U W:Prop}(a:A)(b:B)(c:C)(d:D)(e:E)(f:F)(g:G)(h:H)(i:I)(j:J)(k:K)(l:L)(m:M)(n:N)(o:O)(p:P)(q:Q)(r:R)(s:S)(t:T)
def j3:=zi a (zi b c)
def j4:=zi a (j3 b c d)
def j5:=zi a (j4 b c d e)
def j6:=zi a (j5 b c d e f)
def j7:=zi a (j6 b c d e f g)
def j8:=zi a (j7 b c d e f g h)
def j9:=zi a (j8 b c d e f g h i)
def SC:=zi a (j9 b c d e f g h i j)
def ACM:=zi a (SC b c d e f g h i j k)
def VG:=zi a (ACM b c d e f g h i j k l)
def SD:=zi a (VG b c d e f g h i j k l m)
def kx:=zi a (SD b c d e f g h i j k l m n)
def ACN:=zi a (kx b c d e f g h i j k l m n o)
def VH:=zi a (ACN b c d e f g h i j k l m n o p)
def OJ:=zi a (VH b c d e f g h i j k l m n o p q)
def ky:=zi a (OJ b c d e f g h i j k l m n o p q r)
def ACO:=zi a (ky b c d e f g h i j k l m n o p q r s)
def ACP:=zi a (ACO b c d e f g h i j k l m n o p q r s t)
end
def wQ(x:Int)(a:-9223372036854775808<=x:=by omega)(b:x<=9223372036854775807:=by omega):IntKind.i64.wrap x=x:=Xi a b
def zU(p:Prop)[Decidable p](h:p:=by omega):decide p=ad:=EI h
def zV(p:Prop)[Decidable p](h:¬p:=by omega):decide p=ab:=GC h
def zM{P:Program}{G:Nat->V}{f:FuncId}{a:List V}{H:A'}{r:V}{K:V->A'->Prop}(s:Spec P G f a H (λv _=>v=r))(h:∀ v H',v=r->K v H':=by intro v _ e;rw[e]<;>rfl):Spec P G f a H K:=s.mono h
instance:Coe Int V:=⟨V.int .i64⟩
instance:Coe Nat V:=⟨λi=>V.int .i64 i⟩
instance:Coe Bool V:=⟨V.bool⟩
instance:Coe bS V:=⟨V.AB⟩
instance:Coe Unit (Int->V):=⟨λ_=>V.int .i64⟩
instance:Coe V (V->A'->Prop):=⟨λx v _=>v=x⟩
def qC:Fin 1:=0
instance:CoeFun (Fin 1) (λ_=>Nat->Nat->List V->BL):=⟨λ_=>.cells .new⟩
def qW:Fin 2:=0
instance:CoeFun (Fin 2) (λ_=>V->V):=⟨λ_=>.view .new⟩
def qI:Fin 3:=0
instance:CoeFun (Fin 3) (λ_=>Int->V):=⟨λ_=>.int .i64⟩
def qE:Fin 4:=0
instance:CoeFun (Fin 4) (λ_=>Sl Int->V):=⟨λ_=>Za .new 1 (.int .i64)⟩
def qN:Fin 5:=0
instance:CoeFun (Fin 5) (λ_=>Int->Int):=⟨λ_=>IntKind.i64.wrap⟩
def qz{n:Nat}:0<=n:=CB n
def ql{n:Nat}:n<=n:=BO n
def qs{E:BX}{τ:Nat->V}{H:A'}{l:List (Nat×V)}{m:List (Nat×BL)}(h:Vy τ l:=by exact zp)(k:Vy H m:=by exact zp):Weak E ⟨τ,H⟩ (Hs.st l m):=AO h k
