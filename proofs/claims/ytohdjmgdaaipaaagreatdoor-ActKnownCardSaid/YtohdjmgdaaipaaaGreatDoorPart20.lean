/- Part 20 of the proof of a statement of seat YtohdjmgdaaipaaaGreatDoor: HsFactsH. -/
import Derived.Test.YtohdjmgdaaipaaaGreatDoorPart19
import Derived.Test.YtohdjmgdaaipaaaGreatDoorProg
import Derived.KernelRfl
set_option linter.unusedSimpArgs false
set_option linter.unusedVariables false
section
namespace Go.Hs
open Go.Proofs
theorem Zk0:Z1a Tryz.prog 2=some (false,1):=by kernel_rfl
@[go_sem] theorem Tryz.load2 (H:Heap) (a:V):Zwa Tryz.prog H 2 a=Zpc (some (false,1)) (Zwh H a) a:=Z7a Zk0 H a
theorem Zj0:Z1a Tryz.prog 3=some (false,1):=by kernel_rfl
@[go_sem] theorem Tryz.load3 (H:Heap) (a:V):Zwa Tryz.prog H 3 a=Zpc (some (false,1)) (Zwh H a) a:=Z7a Zj0 H a
@[go_sem] theorem Tryz.sz3:Zgc Tryz.prog 3=some 1:=by kernel_rfl
theorem Zi0:Z1a Tryz.prog 4=some (false,1):=by kernel_rfl
@[go_sem] theorem Tryz.load4 (H:Heap) (a:V):Zwa Tryz.prog H 4 a=Zpc (some (false,1)) (Zwh H a) a:=Z7a Zi0 H a
@[go_sem] theorem Tryz.eqb4 (a b:Bool):Zbj Tryz.prog .eql 4 (.bool a) (.bool b)=some (.bool (a==b)):=(Zjx (P:=Tryz.prog) (by kernel_rfl) a b).1
@[go_sem] theorem Tryz.neb4 (a b:Bool):Zbj Tryz.prog .neq 4 (.bool a) (.bool b)=some (.bool (a != b)):=(Zjx (P:=Tryz.prog) (by kernel_rfl) a b).2
theorem Zh0:Z1a Tryz.prog 5=some (false,1):=by kernel_rfl
@[go_sem] theorem Tryz.load5 (H:Heap) (a:V):Zwa Tryz.prog H 5 a=Zpc (some (false,1)) (Zwh H a) a:=Z7a Zh0 H a
@[go_sem] theorem Tryz.sz5:Zgc Tryz.prog 5=some 1:=by kernel_rfl
theorem Zg0:Z1a Tryz.prog 9=some (false,1):=by kernel_rfl
@[go_sem] theorem Tryz.load9 (H:Heap) (a:V):Zwa Tryz.prog H 9 a=Zpc (some (false,1)) (Zwh H a) a:=Z7a Zg0 H a
@[go_sem] theorem Tryz.sz9:Zgc Tryz.prog 9=some 1:=by kernel_rfl
theorem Ztp:Zrz Tryz.prog 9=true:=by kernel_rfl
@[go_sem] theorem Tryz.len9 (a:V):Z0o Tryz.prog 9 a=Zqn false a:=Zfaa Ztp a
@[go_sem] theorem Tryz.ixs9 (s:List UInt8) (k:IntKind) (n:Int):Z2h Tryz.prog 9 (.str s) (.int k n)=if 0≤n then (s[n.toNat]?).map fun b => .int .u8 b.toNat else none:=Z43 Ztp s k n
@[go_sem] theorem Tryz.sls9 (s:List UInt8) (lo hi:Option V):Zzf Tryz.prog 9 (.str s) lo hi none=slJ (Zna 0 lo) (Zna s.length hi) fun i j=>if i≤j∧j≤s.length then some (.str ((s.drop i).take (j-i))) else none:=Zd3 Ztp s lo hi
theorem Z6p:Z6d Tryz.prog 23=some 3:=by kernel_rfl
@[go_sem] theorem Tryz.idx23 (a i:V):Zoa Tryz.prog 23 a i=Z0s (some 3) a i:=Zib Z6p a i
@[go_sem] theorem Tryz.len23 (a:V):Z0o Tryz.prog 23 a=Zqn true a:=Z5b Z6p a
@[go_sem] theorem Tryz.bs23 (n:Nat) (l:List (Nat × V)):Zpd Tryz.prog 23 n l=bsK 3 [.int .u8 0,.str [],.nils] n l:=Z6c (P:=Tryz.prog) (t:=23) (e:=98) (m:=3) (z:=[.int .u8 0,.str [],.nils]) (by kernel_rfl) (by kernel_rfl) (by kernel_rfl) rfl n l
theorem Zu4:Zdn Tryz.prog [23,23]=some (3,48):=by kernel_rfl
@[go_sem] theorem Tryz.appc23 (E:Ent) (ops:Array Oper) (Q:AS→Prop) (rest:List Oper) (e:Nat) (τ : Nat→V) (H:Heap) (a b:V):Zj4 Tryz.prog E ops Q rest e τ H [23,23] a b=Zfv Tryz.prog E ops Q rest e τ H 3 48 a (Z3a H 3 b) (obS H a):=Zkj ops Zu4 e a b
theorem Z2x:Z1a Tryz.prog 24=some (false,1):=by kernel_rfl
@[go_sem] theorem Tryz.load24 (H:Heap) (a:V):Zwa Tryz.prog H 24 a=Zpc (some (false,1)) (Zwh H a) a:=Z7a Z2x H a
@[go_sem] theorem Tryz.sz24:Zgc Tryz.prog 24=some 1:=by kernel_rfl
theorem Z1x:Z1a Tryz.prog 27=some (false,1):=by kernel_rfl
@[go_sem] theorem Tryz.load27 (H:Heap) (a:V):Zwa Tryz.prog H 27 a=Zpc (some (false,1)) (Zwh H a) a:=Z7a Z1x H a
@[go_sem] theorem Tryz.sz27:Zgc Tryz.prog 27=some 1:=by kernel_rfl
theorem Zek:Z6d Tryz.prog 27=some 3:=by kernel_rfl
@[go_sem] theorem Tryz.idx27 (a i:V):Zoa Tryz.prog 27 a i=Z0s (some 3) a i:=Zib Zek a i
@[go_sem] theorem Tryz.len27 (a:V):Z0o Tryz.prog 27 a=Zqn true a:=Z5b Zek a
@[go_sem] theorem Tryz.sl27 (a:V) (lo hi:Option V):Zzf Tryz.prog 27 a lo hi none=slK 3 a lo hi:=Zqk Zek a lo hi
@[go_sem] theorem Tryz.bs27 (n:Nat) (l:List (Nat × V)):Zpd Tryz.prog 27 n l=bsK 3 [.int .u8 0,.str [],.nils] n l:=Z6c (P:=Tryz.prog) (t:=27) (e:=55) (m:=3) (z:=[.int .u8 0,.str [],.nils]) (by kernel_rfl) (by kernel_rfl) (by kernel_rfl) rfl n l
theorem Zt4:Zdn Tryz.prog [27,27]=some (3,48):=by kernel_rfl
@[go_sem] theorem Tryz.appc27 (E:Ent) (ops:Array Oper) (Q:AS→Prop) (rest:List Oper) (e:Nat) (τ : Nat→V) (H:Heap) (a b:V):Zj4 Tryz.prog E ops Q rest e τ H [27,27] a b=Zfv Tryz.prog E ops Q rest e τ H 3 48 a (Z3a H 3 b) (obS H a):=Zkj ops Zt4 e a b
theorem Z0x:Z1a Tryz.prog 29=some (true,1):=by kernel_rfl
@[go_sem] theorem Tryz.load29 (H:Heap) (a:V):Zwa Tryz.prog H 29 a=Zpc (some (true,1)) (Zwh H a) a:=Z7a Z0x H a
@[go_sem] theorem Tryz.sz29:Zgc Tryz.prog 29=some 1:=by kernel_rfl
@[go_sem] theorem Tryz.zero29:Zvf Tryz.prog 29=some [.nils]:=by kernel_rfl
@[go_sem] theorem Tryz.bld29 (l:List (Nat × V)):Zec Tryz.prog 29 l=(Zfc (Zhn [(0,1)]) [.nils] l).map .agg:=Zac (P:=Tryz.prog) (t:=29) (tbl:=[(0,1)]) (z:=[.nils]) (by kernel_rfl) (by kernel_rfl) l
theorem Zdy:Zkb Tryz.prog 29 0=some (0,false,1):=by kernel_rfl
@[go_sem] theorem Tryz.fa29_0 (a:V):Zk Tryz.prog 29 a 0=Z3d (some (0,false,1)) a:=Zj Zdy a
theorem Zzx:Z1a Tryz.prog 36=some (false,1):=by kernel_rfl
@[go_sem] theorem Tryz.load36 (H:Heap) (a:V):Zwa Tryz.prog H 36 a=Zpc (some (false,1)) (Zwh H a) a:=Z7a Zzx H a
theorem Zh8:Z5l Tryz.prog 36=2:=by kernel_rfl
@[go_sem] theorem Tryz.eqn36 (a:V):Zbj Tryz.prog .eql 36 a .nils=(nilK 2 a).map .bool:=(Z1aa _ _ Zh8 (by simp) a).1
theorem Z5p:Z6d Tryz.prog 36=some 1:=by kernel_rfl
@[go_sem] theorem Tryz.idx36 (a i:V):Zoa Tryz.prog 36 a i=Z0s (some 1) a i:=Zib Z5p a i
@[go_sem] theorem Tryz.len36 (a:V):Z0o Tryz.prog 36 a=Zqn true a:=Z5b Z5p a
@[go_sem] theorem Tryz.bs36 (n:Nat) (l:List (Nat × V)):Zpd Tryz.prog 36 n l=bsK 1 [.str []] n l:=Z6c (P:=Tryz.prog) (t:=36) (e:=9) (m:=1) (z:=[.str []]) (by kernel_rfl) (by kernel_rfl) (by kernel_rfl) rfl n l
theorem Zs4:Zdn Tryz.prog [36,36]=some (1,16):=by kernel_rfl
@[go_sem] theorem Tryz.appc36 (E:Ent) (ops:Array Oper) (Q:AS→Prop) (rest:List Oper) (e:Nat) (τ : Nat→V) (H:Heap) (a b:V):Zj4 Tryz.prog E ops Q rest e τ H [36,36] a b=Zfv Tryz.prog E ops Q rest e τ H 1 16 a (Z3a H 1 b) (obS H a):=Zkj ops Zs4 e a b
theorem Zyx:Z1a Tryz.prog 51=some (false,1):=by kernel_rfl
@[go_sem] theorem Tryz.load51 (H:Heap) (a:V):Zwa Tryz.prog H 51 a=Zpc (some (false,1)) (Zwh H a) a:=Z7a Zyx H a
@[go_sem] theorem Tryz.sz51:Zgc Tryz.prog 51=some 1:=by kernel_rfl
theorem Z4p:Z6d Tryz.prog 51=some 6:=by kernel_rfl
@[go_sem] theorem Tryz.idx51 (a i:V):Zoa Tryz.prog 51 a i=Z0s (some 6) a i:=Zib Z4p a i
@[go_sem] theorem Tryz.len51 (a:V):Z0o Tryz.prog 51 a=Zqn true a:=Z5b Z4p a
@[go_sem] theorem Tryz.bs51 (n:Nat) (l:List (Nat × V)):Zpd Tryz.prog 51 n l=bsK 6 [.int .u8 0,.int .i64 0,.str [],.int .i64 0,.int .i64 0,.int .i64 0] n l:=Z6c (P:=Tryz.prog) (t:=51) (e:=112) (m:=6) (z:=[.int .u8 0,.int .i64 0,.str [],.int .i64 0,.int .i64 0,.int .i64 0]) (by kernel_rfl) (by kernel_rfl) (by kernel_rfl) rfl n l
theorem Zr4:Zdn Tryz.prog [51,51]=some (6,56):=by kernel_rfl
@[go_sem] theorem Tryz.appc51 (E:Ent) (ops:Array Oper) (Q:AS→Prop) (rest:List Oper) (e:Nat) (τ : Nat→V) (H:Heap) (a b:V):Zj4 Tryz.prog E ops Q rest e τ H [51,51] a b=Zfv Tryz.prog E ops Q rest e τ H 6 56 a (Z3a H 6 b) (obS H a):=Zkj ops Zr4 e a b
theorem Zxx:Z1a Tryz.prog 53=some (true,1):=by kernel_rfl
@[go_sem] theorem Tryz.load53 (H:Heap) (a:V):Zwa Tryz.prog H 53 a=Zpc (some (true,1)) (Zwh H a) a:=Z7a Zxx H a
@[go_sem] theorem Tryz.sz53:Zgc Tryz.prog 53=some 1:=by kernel_rfl
@[go_sem] theorem Tryz.zero53:Zvf Tryz.prog 53=some [.nils]:=by kernel_rfl
@[go_sem] theorem Tryz.bld53 (l:List (Nat × V)):Zec Tryz.prog 53 l=(Zfc (Zhn [(0,1)]) [.nils] l).map .agg:=Zac (P:=Tryz.prog) (t:=53) (tbl:=[(0,1)]) (z:=[.nils]) (by kernel_rfl) (by kernel_rfl) l
theorem Zcy:Zkb Tryz.prog 53 0=some (0,false,1):=by kernel_rfl
@[go_sem] theorem Tryz.fa53_0 (a:V):Zk Tryz.prog 53 a 0=Z3d (some (0,false,1)) a:=Zj Zcy a
theorem Zwx:Z1a Tryz.prog 55=some (true,3):=by kernel_rfl
@[go_sem] theorem Tryz.load55 (H:Heap) (a:V):Zwa Tryz.prog H 55 a=Zpc (some (true,3)) (Zwh H a) a:=Z7a Zwx H a
@[go_sem] theorem Tryz.sz55:Zgc Tryz.prog 55=some 3:=by kernel_rfl
@[go_sem] theorem Tryz.zero55:Zvf Tryz.prog 55=some [.int .u8 0,.str [],.nils]:=by kernel_rfl
theorem Zby:Zkb Tryz.prog 55 0=some (0,false,1):=by kernel_rfl
@[go_sem] theorem Tryz.fa55_0 (a:V):Zk Tryz.prog 55 a 0=Z3d (some (0,false,1)) a:=Zj Zby a
theorem Zay:Zkb Tryz.prog 55 1=some (1,false,1):=by kernel_rfl
@[go_sem] theorem Tryz.fa55_1 (a:V):Zk Tryz.prog 55 a 1=Z3d (some (1,false,1)) a:=Zj Zay a
theorem Z9x:Zkb Tryz.prog 55 2=some (2,true,1):=by kernel_rfl
@[go_sem] theorem Tryz.fa55_2 (a:V):Zk Tryz.prog 55 a 2=Z3d (some (2,true,1)) a:=Zj Z9x a
theorem Zvx:Z1a Tryz.prog 91=some (false,1):=by kernel_rfl
@[go_sem] theorem Tryz.load91 (H:Heap) (a:V):Zwa Tryz.prog H 91 a=Zpc (some (false,1)) (Zwh H a) a:=Z7a Zvx H a
theorem Zdk:Z6d Tryz.prog 91=some 3:=by kernel_rfl
@[go_sem] theorem Tryz.idx91 (a i:V):Zoa Tryz.prog 91 a i=Z0s (some 3) a i:=Zib Zdk a i
@[go_sem] theorem Tryz.len91 (a:V):Z0o Tryz.prog 91 a=Zqn true a:=Z5b Zdk a
@[go_sem] theorem Tryz.sl91 (a:V) (lo hi:Option V):Zzf Tryz.prog 91 a lo hi none=slK 3 a lo hi:=Zqk Zdk a lo hi
@[go_sem] theorem Tryz.bs91 (n:Nat) (l:List (Nat × V)):Zpd Tryz.prog 91 n l=bsK 3 [.int .u8 0,.str [],.int .i64 0] n l:=Z6c (P:=Tryz.prog) (t:=91) (e:=95) (m:=3) (z:=[.int .u8 0,.str [],.int .i64 0]) (by kernel_rfl) (by kernel_rfl) (by kernel_rfl) rfl n l
theorem Zq4:Zdn Tryz.prog [91,91]=some (3,32):=by kernel_rfl
@[go_sem] theorem Tryz.appc91 (E:Ent) (ops:Array Oper) (Q:AS→Prop) (rest:List Oper) (e:Nat) (τ : Nat→V) (H:Heap) (a b:V):Zj4 Tryz.prog E ops Q rest e τ H [91,91] a b=Zfv Tryz.prog E ops Q rest e τ H 3 32 a (Z3a H 3 b) (obS H a):=Zkj ops Zq4 e a b
@[go_sem] theorem Tryz.bld95 (l:List (Nat × V)):Zec Tryz.prog 95 l=(Zfc (Zhn [(0,1),(1,1),(2,1)]) [.int .u8 0,.str [],.int .i64 0] l).map .agg:=Zac (P:=Tryz.prog) (t:=95) (tbl:=[(0,1),(1,1),(2,1)]) (z:=[.int .u8 0,.str [],.int .i64 0]) (by kernel_rfl) (by kernel_rfl) l
theorem Z8x:Zkb Tryz.prog 95 0=some (0,false,1):=by kernel_rfl
@[go_sem] theorem Tryz.fa95_0 (a:V):Zk Tryz.prog 95 a 0=Z3d (some (0,false,1)) a:=Zj Z8x a
theorem Z7x:Zkb Tryz.prog 95 1=some (1,false,1):=by kernel_rfl
@[go_sem] theorem Tryz.fa95_1 (a:V):Zk Tryz.prog 95 a 1=Z3d (some (1,false,1)) a:=Zj Z7x a
theorem Z6x:Zkb Tryz.prog 95 2=some (2,false,1):=by kernel_rfl
@[go_sem] theorem Tryz.fa95_2 (a:V):Zk Tryz.prog 95 a 2=Z3d (some (2,false,1)) a:=Zj Z6x a
theorem Zux:Z1a Tryz.prog 96=some (false,1):=by kernel_rfl
@[go_sem] theorem Tryz.load96 (H:Heap) (a:V):Zwa Tryz.prog H 96 a=Zpc (some (false,1)) (Zwh H a) a:=Z7a Zux H a
@[go_sem] theorem Tryz.sz96:Zgc Tryz.prog 96=some 1:=by kernel_rfl
theorem Z3p:Z6d Tryz.prog 96=some 6:=by kernel_rfl
@[go_sem] theorem Tryz.idx96 (a i:V):Zoa Tryz.prog 96 a i=Z0s (some 6) a i:=Zib Z3p a i
@[go_sem] theorem Tryz.len96 (a:V):Z0o Tryz.prog 96 a=Zqn true a:=Z5b Z3p a
@[go_sem] theorem Tryz.bs96 (n:Nat) (l:List (Nat × V)):Zpd Tryz.prog 96 n l=bsK 6 [.int .u8 0,.int .i64 0,.str [],.int .i64 0,.int .i64 0,.int .i64 0] n l:=Z6c (P:=Tryz.prog) (t:=96) (e:=111) (m:=6) (z:=[.int .u8 0,.int .i64 0,.str [],.int .i64 0,.int .i64 0,.int .i64 0]) (by kernel_rfl) (by kernel_rfl) (by kernel_rfl) rfl n l
theorem Zp4:Zdn Tryz.prog [96,96]=some (6,56):=by kernel_rfl
@[go_sem] theorem Tryz.appc96 (E:Ent) (ops:Array Oper) (Q:AS→Prop) (rest:List Oper) (e:Nat) (τ : Nat→V) (H:Heap) (a b:V):Zj4 Tryz.prog E ops Q rest e τ H [96,96] a b=Zfv Tryz.prog E ops Q rest e τ H 6 56 a (Z3a H 6 b) (obS H a):=Zkj ops Zp4 e a b
theorem Ztx:Z1a Tryz.prog 98=some (true,3):=by kernel_rfl
@[go_sem] theorem Tryz.load98 (H:Heap) (a:V):Zwa Tryz.prog H 98 a=Zpc (some (true,3)) (Zwh H a) a:=Z7a Ztx H a
@[go_sem] theorem Tryz.sz98:Zgc Tryz.prog 98=some 3:=by kernel_rfl
@[go_sem] theorem Tryz.zero98:Zvf Tryz.prog 98=some [.int .u8 0,.str [],.nils]:=by kernel_rfl
@[go_sem] theorem Tryz.bld98 (l:List (Nat × V)):Zec Tryz.prog 98 l=(Zfc (Zhn [(0,1),(1,1),(2,1)]) [.int .u8 0,.str [],.nils] l).map .agg:=Zac (P:=Tryz.prog) (t:=98) (tbl:=[(0,1),(1,1),(2,1)]) (z:=[.int .u8 0,.str [],.nils]) (by kernel_rfl) (by kernel_rfl) l
theorem Z5x:Zkb Tryz.prog 98 0=some (0,false,1):=by kernel_rfl
@[go_sem] theorem Tryz.fa98_0 (a:V):Zk Tryz.prog 98 a 0=Z3d (some (0,false,1)) a:=Zj Z5x a
theorem Z4x:Zkb Tryz.prog 98 1=some (1,false,1):=by kernel_rfl
@[go_sem] theorem Tryz.fa98_1 (a:V):Zk Tryz.prog 98 a 1=Z3d (some (1,false,1)) a:=Zj Z4x a
theorem Z3x:Zkb Tryz.prog 98 2=some (2,false,1):=by kernel_rfl
@[go_sem] theorem Tryz.fa98_2 (a:V):Zk Tryz.prog 98 a 2=Z3d (some (2,false,1)) a:=Zj Z3x a
theorem Zzt:Z1a Tryz.prog 101=some (false,1):=by kernel_rfl
@[go_sem] theorem Zzca (H:Heap) (a:V):Zwa Tryz.prog H 101 a=Zpc (some (false,1)) (Zwh H a) a:=Z7a Zzt H a
theorem Zmi:Z6d Tryz.prog 101=some 3:=by kernel_rfl
@[go_sem] theorem Tryz.idx101 (a i:V):Zoa Tryz.prog 101 a i=Z0s (some 3) a i:=Zib Zmi a i
@[go_sem] theorem Tryz.len101 (a:V):Z0o Tryz.prog 101 a=Zqn true a:=Z5b Zmi a
@[go_sem] theorem Tryz.sl101 (a:V) (lo hi:Option V):Zzf Tryz.prog 101 a lo hi none=slK 3 a lo hi:=Zqk Zmi a lo hi
@[go_sem] theorem Tryz.bs101 (n:Nat) (l:List (Nat × V)):Zpd Tryz.prog 101 n l=bsK 3 [.int .u8 0,.str [],.int .i64 0] n l:=Z6c (P:=Tryz.prog) (t:=101) (e:=109) (m:=3) (z:=[.int .u8 0,.str [],.int .i64 0]) (by kernel_rfl) (by kernel_rfl) (by kernel_rfl) rfl n l
theorem Zu0:Zdn Tryz.prog [101,101]=some (3,32):=by kernel_rfl
@[go_sem] theorem Zaea (E:Ent) (ops:Array Oper) (Q:AS→Prop) (rest:List Oper) (e:Nat) (τ : Nat→V) (H:Heap) (a b:V):Zj4 Tryz.prog E ops Q rest e τ H [101,101] a b=Zfv Tryz.prog E ops Q rest e τ H 3 32 a (Z3a H 3 b) (obS H a):=Zkj ops Zu0 e a b
@[go_sem] theorem Tryz.bld106 (l:List (Nat × V)):Zec Tryz.prog 106 l=(Zfc (Zhn [(0,1),(1,1),(2,1)]) [.nils,.int .i64 0,.int .i64 0] l).map .agg:=Zac (P:=Tryz.prog) (t:=106) (tbl:=[(0,1),(1,1),(2,1)]) (z:=[.nils,.int .i64 0,.int .i64 0]) (by kernel_rfl) (by kernel_rfl) l
theorem Z6u:Zkb Tryz.prog 106 0=some (0,false,1):=by kernel_rfl
@[go_sem] theorem Z6da (a:V):Zk Tryz.prog 106 a 0=Z3d (some (0,false,1)) a:=Zj Z6u a
theorem Z5u:Zkb Tryz.prog 106 1=some (1,false,1):=by kernel_rfl
@[go_sem] theorem Z5da (a:V):Zk Tryz.prog 106 a 1=Z3d (some (1,false,1)) a:=Zj Z5u a
theorem Z4u:Zkb Tryz.prog 106 2=some (2,false,1):=by kernel_rfl
@[go_sem] theorem Z4da (a:V):Zk Tryz.prog 106 a 2=Z3d (some (2,false,1)) a:=Zj Z4u a
@[go_sem] theorem Tryz.bld108 (l:List (Nat × V)):Zec Tryz.prog 108 l=(Zfc (Zhn [(0,3),(3,1)]) [.nils,.int .i64 0,.int .i64 0,.nils] l).map .agg:=Zac (P:=Tryz.prog) (t:=108) (tbl:=[(0,3),(3,1)]) (z:=[.nils,.int .i64 0,.int .i64 0,.nils]) (by kernel_rfl) (by kernel_rfl) l
theorem Z3u:Zkb Tryz.prog 108 0=some (0,true,3):=by kernel_rfl
@[go_sem] theorem Z3da (a:V):Zk Tryz.prog 108 a 0=Z3d (some (0,true,3)) a:=Zj Z3u a
theorem Z2u:Zkb Tryz.prog 108 1=some (3,false,1):=by kernel_rfl
@[go_sem] theorem Z2da (a:V):Zk Tryz.prog 108 a 1=Z3d (some (3,false,1)) a:=Zj Z2u a
theorem Zyt:Z1a Tryz.prog 109=some (true,3):=by kernel_rfl
@[go_sem] theorem Zyca (H:Heap) (a:V):Zwa Tryz.prog H 109 a=Zpc (some (true,3)) (Zwh H a) a:=Z7a Zyt H a
@[go_sem] theorem Tryz.sz109:Zgc Tryz.prog 109=some 3:=by kernel_rfl
@[go_sem] theorem Zica:Zvf Tryz.prog 109=some [.int .u8 0,.str [],.int .i64 0]:=by kernel_rfl
@[go_sem] theorem Tryz.bld109 (l:List (Nat × V)):Zec Tryz.prog 109 l=(Zfc (Zhn [(0,1),(1,1),(2,1)]) [.int .u8 0,.str [],.int .i64 0] l).map .agg:=Zac (P:=Tryz.prog) (t:=109) (tbl:=[(0,1),(1,1),(2,1)]) (z:=[.int .u8 0,.str [],.int .i64 0]) (by kernel_rfl) (by kernel_rfl) l
theorem Z1u:Zkb Tryz.prog 109 0=some (0,false,1):=by kernel_rfl
@[go_sem] theorem Z1da (a:V):Zk Tryz.prog 109 a 0=Z3d (some (0,false,1)) a:=Zj Z1u a
theorem Z0u:Zkb Tryz.prog 109 1=some (1,false,1):=by kernel_rfl
@[go_sem] theorem Z0da (a:V):Zk Tryz.prog 109 a 1=Z3d (some (1,false,1)) a:=Zj Z0u a
theorem Zzu:Zkb Tryz.prog 109 2=some (2,false,1):=by kernel_rfl
@[go_sem] theorem Zzda (a:V):Zk Tryz.prog 109 a 2=Z3d (some (2,false,1)) a:=Zj Zzu a
theorem Zxt:Z1a Tryz.prog 111=some (true,6):=by kernel_rfl
@[go_sem] theorem Zxca (H:Heap) (a:V):Zwa Tryz.prog H 111 a=Zpc (some (true,6)) (Zwh H a) a:=Z7a Zxt H a
@[go_sem] theorem Tryz.sz111:Zgc Tryz.prog 111=some 6:=by kernel_rfl
@[go_sem] theorem Zhca:Zvf Tryz.prog 111=some [.int .u8 0,.int .i64 0,.str [],.int .i64 0,.int .i64 0,.int .i64 0]:=by kernel_rfl
@[go_sem] theorem Tryz.bld111 (l:List (Nat × V)):Zec Tryz.prog 111 l=(Zfc (Zhn [(0,1),(1,1),(2,1),(3,1),(4,1),(5,1)]) [.int .u8 0,.int .i64 0,.str [],.int .i64 0,.int .i64 0,.int .i64 0] l).map .agg:=Zac (P:=Tryz.prog) (t:=111) (tbl:=[(0,1),(1,1),(2,1),(3,1),(4,1),(5,1)]) (z:=[.int .u8 0,.int .i64 0,.str [],.int .i64 0,.int .i64 0,.int .i64 0]) (by kernel_rfl) (by kernel_rfl) l
theorem Zyu:Zkb Tryz.prog 111 0=some (0,false,1):=by kernel_rfl
@[go_sem] theorem Zyda (a:V):Zk Tryz.prog 111 a 0=Z3d (some (0,false,1)) a:=Zj Zyu a
theorem Zxu:Zkb Tryz.prog 111 1=some (1,false,1):=by kernel_rfl
@[go_sem] theorem Zxda (a:V):Zk Tryz.prog 111 a 1=Z3d (some (1,false,1)) a:=Zj Zxu a
theorem Zwu:Zkb Tryz.prog 111 2=some (2,false,1):=by kernel_rfl
@[go_sem] theorem Zwda (a:V):Zk Tryz.prog 111 a 2=Z3d (some (2,false,1)) a:=Zj Zwu a
theorem Zvu:Zkb Tryz.prog 111 3=some (3,false,1):=by kernel_rfl
@[go_sem] theorem Zvda (a:V):Zk Tryz.prog 111 a 3=Z3d (some (3,false,1)) a:=Zj Zvu a
theorem Zuu:Zkb Tryz.prog 111 4=some (4,false,1):=by kernel_rfl
@[go_sem] theorem Zuda (a:V):Zk Tryz.prog 111 a 4=Z3d (some (4,false,1)) a:=Zj Zuu a
theorem Ztu:Zkb Tryz.prog 111 5=some (5,false,1):=by kernel_rfl
@[go_sem] theorem Ztda (a:V):Zk Tryz.prog 111 a 5=Z3d (some (5,false,1)) a:=Zj Ztu a
@[go_sem] theorem Zkca (x0 y0:Int) (x1 y1:Int) (x2 y2:List UInt8) (x3 y3:Int) (x4 y4:Int) (x5 y5:Int):Zbj Tryz.prog .neq 111 (.agg [.int .u8 x0,.int .i64 x1,.str x2,.int .i64 x3,.int .i64 x4,.int .i64 x5]) (.agg [.int .u8 y0,.int .i64 y1,.str y2,.int .i64 y3,.int .i64 y4,.int .i64 y5])=some (.bool (!(x0==y0 && (x1==y1 && (x2==y2 && (x3==y3 && (x4==y4 && (x5==y5 && true)))))))):=(Zix (P:=Tryz.prog) (t:=111) (by kernel_rfl) (Zje (Zje (Zi2 (Zje (Zje (Zje Zj2 .i64 x5 y5) .i64 x4 y4) .i64 x3 y3) x2 y2) .i64 x1 y1) .u8 x0 y0)).2
theorem Zwt:Z1a Tryz.prog 112=some (true,6):=by kernel_rfl
@[go_sem] theorem Zwca (H:Heap) (a:V):Zwa Tryz.prog H 112 a=Zpc (some (true,6)) (Zwh H a) a:=Z7a Zwt H a
@[go_sem] theorem Tryz.sz112:Zgc Tryz.prog 112=some 6:=by kernel_rfl
@[go_sem] theorem Zgca:Zvf Tryz.prog 112=some [.int .u8 0,.int .i64 0,.str [],.int .i64 0,.int .i64 0,.int .i64 0]:=by kernel_rfl
@[go_sem] theorem Tryz.bld112 (l:List (Nat × V)):Zec Tryz.prog 112 l=(Zfc (Zhn [(0,1),(1,1),(2,1),(3,1),(4,1),(5,1)]) [.int .u8 0,.int .i64 0,.str [],.int .i64 0,.int .i64 0,.int .i64 0] l).map .agg:=Zac (P:=Tryz.prog) (t:=112) (tbl:=[(0,1),(1,1),(2,1),(3,1),(4,1),(5,1)]) (z:=[.int .u8 0,.int .i64 0,.str [],.int .i64 0,.int .i64 0,.int .i64 0]) (by kernel_rfl) (by kernel_rfl) l
theorem Zsu:Zkb Tryz.prog 112 0=some (0,false,1):=by kernel_rfl
@[go_sem] theorem Zsda (a:V):Zk Tryz.prog 112 a 0=Z3d (some (0,false,1)) a:=Zj Zsu a
theorem Zru:Zkb Tryz.prog 112 1=some (1,false,1):=by kernel_rfl
@[go_sem] theorem Zrda (a:V):Zk Tryz.prog 112 a 1=Z3d (some (1,false,1)) a:=Zj Zru a
theorem Zqu:Zkb Tryz.prog 112 2=some (2,false,1):=by kernel_rfl
@[go_sem] theorem Zqda (a:V):Zk Tryz.prog 112 a 2=Z3d (some (2,false,1)) a:=Zj Zqu a
theorem Zpu:Zkb Tryz.prog 112 3=some (3,false,1):=by kernel_rfl
@[go_sem] theorem Zpda (a:V):Zk Tryz.prog 112 a 3=Z3d (some (3,false,1)) a:=Zj Zpu a
theorem Zou:Zkb Tryz.prog 112 4=some (4,false,1):=by kernel_rfl
@[go_sem] theorem Zoda (a:V):Zk Tryz.prog 112 a 4=Z3d (some (4,false,1)) a:=Zj Zou a
theorem Znu:Zkb Tryz.prog 112 5=some (5,false,1):=by kernel_rfl
@[go_sem] theorem Znda (a:V):Zk Tryz.prog 112 a 5=Z3d (some (5,false,1)) a:=Zj Znu a
@[go_sem] theorem Zjca (x0 y0:Int) (x1 y1:Int) (x2 y2:List UInt8) (x3 y3:Int) (x4 y4:Int) (x5 y5:Int):Zbj Tryz.prog .neq 112 (.agg [.int .u8 x0,.int .i64 x1,.str x2,.int .i64 x3,.int .i64 x4,.int .i64 x5]) (.agg [.int .u8 y0,.int .i64 y1,.str y2,.int .i64 y3,.int .i64 y4,.int .i64 y5])=some (.bool (!(x0==y0 && (x1==y1 && (x2==y2 && (x3==y3 && (x4==y4 && (x5==y5 && true)))))))):=(Zix (P:=Tryz.prog) (t:=112) (by kernel_rfl) (Zje (Zje (Zi2 (Zje (Zje (Zje Zj2 .i64 x5 y5) .i64 x4 y4) .i64 x3 y3) x2 y2) .i64 x1 y1) .u8 x0 y0)).2
theorem Zvt:Z1a Tryz.prog 166=some (false,1):=by kernel_rfl
@[go_sem] theorem Zvca (H:Heap) (a:V):Zwa Tryz.prog H 166 a=Zpc (some (false,1)) (Zwh H a) a:=Z7a Zvt H a
theorem Z8m:Z6d Tryz.prog 166=some 1:=by kernel_rfl
@[go_sem] theorem Tryz.idx166 (a i:V):Zoa Tryz.prog 166 a i=Z0s (some 1) a i:=Zib Z8m a i
@[go_sem] theorem Tryz.len166 (a:V):Z0o Tryz.prog 166 a=Zqn true a:=Z5b Z8m a
@[go_sem] theorem Tryz.bs166 (n:Nat) (l:List (Nat × V)):Zpd Tryz.prog 166 n l=bsK 1 [.int .u8 0] n l:=Z6c (P:=Tryz.prog) (t:=166) (e:=5) (m:=1) (z:=[.int .u8 0]) (by kernel_rfl) (by kernel_rfl) (by kernel_rfl) rfl n l
theorem Zt0:Zdn Tryz.prog [166,166]=some (1,1):=by kernel_rfl
@[go_sem] theorem Z9da (E:Ent) (ops:Array Oper) (Q:AS→Prop) (rest:List Oper) (e:Nat) (τ : Nat→V) (H:Heap) (a b:V):Zj4 Tryz.prog E ops Q rest e τ H [166,166] a b=Zfv Tryz.prog E ops Q rest e τ H 1 1 a (Z3a H 1 b) (obS H a):=Zkj ops Zt0 e a b
theorem Zut:Z1a Tryz.prog 188=some (false,1):=by kernel_rfl
@[go_sem] theorem Zuca (H:Heap) (a:V):Zwa Tryz.prog H 188 a=Zpc (some (false,1)) (Zwh H a) a:=Z7a Zut H a
@[go_sem] theorem Tryz.sz188:Zgc Tryz.prog 188=some 1:=by kernel_rfl
theorem Zli:Z6d Tryz.prog 188=some 1:=by kernel_rfl
@[go_sem] theorem Tryz.idx188 (a i:V):Zoa Tryz.prog 188 a i=Z0s (some 1) a i:=Zib Zli a i
@[go_sem] theorem Tryz.len188 (a:V):Z0o Tryz.prog 188 a=Zqn true a:=Z5b Zli a
@[go_sem] theorem Tryz.sl188 (a:V) (lo hi:Option V):Zzf Tryz.prog 188 a lo hi none=slK 1 a lo hi:=Zqk Zli a lo hi
@[go_sem] theorem Tryz.bs188 (n:Nat) (l:List (Nat × V)):Zpd Tryz.prog 188 n l=bsK 1 [.int .i64 0] n l:=Z6c (P:=Tryz.prog) (t:=188) (e:=3) (m:=1) (z:=[.int .i64 0]) (by kernel_rfl) (by kernel_rfl) (by kernel_rfl) rfl n l
theorem Zs0:Zdn Tryz.prog [188,188]=some (1,8):=by kernel_rfl
@[go_sem] theorem Z8da (E:Ent) (ops:Array Oper) (Q:AS→Prop) (rest:List Oper) (e:Nat) (τ : Nat→V) (H:Heap) (a b:V):Zj4 Tryz.prog E ops Q rest e τ H [188,188] a b=Zfv Tryz.prog E ops Q rest e τ H 1 8 a (Z3a H 1 b) (obS H a):=Zkj ops Zs0 e a b
@[go_sem] theorem Tryz.bld202 (l:List (Nat × V)):Zec Tryz.prog 202 l=(Zfc (Zhn [(0,1),(1,1),(2,1),(3,1)]) [.nils,.int .i64 0,.nils,.int .i64 0] l).map .agg:=Zac (P:=Tryz.prog) (t:=202) (tbl:=[(0,1),(1,1),(2,1),(3,1)]) (z:=[.nils,.int .i64 0,.nils,.int .i64 0]) (by kernel_rfl) (by kernel_rfl) l
theorem Zmu:Zkb Tryz.prog 202 0=some (0,false,1):=by kernel_rfl
@[go_sem] theorem Zmda (a:V):Zk Tryz.prog 202 a 0=Z3d (some (0,false,1)) a:=Zj Zmu a
theorem Zlu:Zkb Tryz.prog 202 1=some (1,false,1):=by kernel_rfl
@[go_sem] theorem Zlda (a:V):Zk Tryz.prog 202 a 1=Z3d (some (1,false,1)) a:=Zj Zlu a
theorem Zku:Zkb Tryz.prog 202 2=some (2,false,1):=by kernel_rfl
@[go_sem] theorem Zkda (a:V):Zk Tryz.prog 202 a 2=Z3d (some (2,false,1)) a:=Zj Zku a
theorem Zju:Zkb Tryz.prog 202 3=some (3,false,1):=by kernel_rfl
@[go_sem] theorem Zjda (a:V):Zk Tryz.prog 202 a 3=Z3d (some (3,false,1)) a:=Zj Zju a
@[go_sem] theorem Tryz.ia206 (a:V) (ik:IntKind) (n:Int):Zoa Tryz.prog 206 a (.int ik n)=idxA 14 1 false a ik n:=Z3h (P:=Tryz.prog) (e:=9) (by kernel_rfl) (by kernel_rfl) (by kernel_rfl) (by decide) a ik n
theorem Ztt:Z1a Tryz.prog 214=some (true,3):=by kernel_rfl
@[go_sem] theorem Ztca (H:Heap) (a:V):Zwa Tryz.prog H 214 a=Zpc (some (true,3)) (Zwh H a) a:=Z7a Ztt H a
@[go_sem] theorem Tryz.sz214:Zgc Tryz.prog 214=some 3:=by kernel_rfl
@[go_sem] theorem Zfca:Zvf Tryz.prog 214=some [.int .u8 0,.int .u8 0,.int .u8 0]:=by kernel_rfl
@[go_sem] theorem Tryz.bld214 (l:List (Nat × V)):Zec Tryz.prog 214 l=(Zfc (Zhn [(0,1),(1,1),(2,1)]) [.int .u8 0,.int .u8 0,.int .u8 0] l).map .agg:=Zac (P:=Tryz.prog) (t:=214) (tbl:=[(0,1),(1,1),(2,1)]) (z:=[.int .u8 0,.int .u8 0,.int .u8 0]) (by kernel_rfl) (by kernel_rfl) l
theorem Ziu:Zkb Tryz.prog 214 0=some (0,false,1):=by kernel_rfl
@[go_sem] theorem Zida (a:V):Zk Tryz.prog 214 a 0=Z3d (some (0,false,1)) a:=Zj Ziu a
theorem Zhu:Zkb Tryz.prog 214 1=some (1,false,1):=by kernel_rfl
@[go_sem] theorem Zhda (a:V):Zk Tryz.prog 214 a 1=Z3d (some (1,false,1)) a:=Zj Zhu a
theorem Zgu:Zkb Tryz.prog 214 2=some (2,false,1):=by kernel_rfl
@[go_sem] theorem Zgda (a:V):Zk Tryz.prog 214 a 2=Z3d (some (2,false,1)) a:=Zj Zgu a
theorem Zst:Z1a Tryz.prog 216=some (true,4):=by kernel_rfl
@[go_sem] theorem Zsca (H:Heap) (a:V):Zwa Tryz.prog H 216 a=Zpc (some (true,4)) (Zwh H a) a:=Z7a Zst H a
@[go_sem] theorem Tryz.sz216:Zgc Tryz.prog 216=some 4:=by kernel_rfl
@[go_sem] theorem Zeca:Zvf Tryz.prog 216=some [.int .u8 0,.int .u8 0,.int .u8 0,.int .u8 0]:=by kernel_rfl
@[go_sem] theorem Tryz.bld216 (l:List (Nat × V)):Zec Tryz.prog 216 l=(Zfc (Zhn [(0,3),(3,1)]) [.int .u8 0,.int .u8 0,.int .u8 0,.int .u8 0] l).map .agg:=Zac (P:=Tryz.prog) (t:=216) (tbl:=[(0,3),(3,1)]) (z:=[.int .u8 0,.int .u8 0,.int .u8 0,.int .u8 0]) (by kernel_rfl) (by kernel_rfl) l
theorem Zfu:Zkb Tryz.prog 216 0=some (0,true,3):=by kernel_rfl
@[go_sem] theorem Zfda (a:V):Zk Tryz.prog 216 a 0=Z3d (some (0,true,3)) a:=Zj Zfu a
theorem Zeu:Zkb Tryz.prog 216 1=some (3,false,1):=by kernel_rfl
@[go_sem] theorem Zeda (a:V):Zk Tryz.prog 216 a 1=Z3d (some (3,false,1)) a:=Zj Zeu a
theorem Zrt:Z1a Tryz.prog 217=some (true,92):=by kernel_rfl
@[go_sem] theorem Zrca (H:Heap) (a:V):Zwa Tryz.prog H 217 a=Zpc (some (true,92)) (Zwh H a) a:=Z7a Zrt H a
@[go_sem] theorem Tryz.sz217:Zgc Tryz.prog 217=some 92:=by kernel_rfl
@[go_sem] theorem Zdca:Zvf Tryz.prog 217=some (.int .u8 0 :: .int .u8 0 :: .int .u8 0 :: .int .u8 0 :: .int .u8 0 :: .int .u8 0 :: .int .u8 0 :: .int .u8 0 :: .int .u8 0 :: .int .u8 0 :: .int .u8 0 :: .int .u8 0 :: .int .u8 0 :: .int .u8 0 :: .int .u8 0 :: .int .u8 0 :: .int .u8 0 :: .int .u8 0 :: .int .u8 0 :: .int .u8 0 :: .int .u8 0 :: .int .u8 0 :: .int .u8 0 :: .int .u8 0 :: .int .u8 0 :: .int .u8 0 :: .int .u8 0 :: .int .u8 0 :: .int .u8 0 :: .int .u8 0 :: .int .u8 0 :: .int .u8 0 :: .int .u8 0 :: .int .u8 0 :: .int .u8 0 :: .int .u8 0 :: .int .u8 0 :: .int .u8 0 :: .int .u8 0 :: .int .u8 0 :: .int .u8 0 :: .int .u8 0 :: .int .u8 0 :: .int .u8 0 :: .int .u8 0 :: .int .u8 0 :: .int .u8 0 :: .int .u8 0 :: .int .u8 0 :: .int .u8 0 :: .int .u8 0 :: .int .u8 0 :: .int .u8 0 :: .int .u8 0 :: .int .u8 0 :: .int .u8 0 :: .int .u8 0 :: .int .u8 0 :: .int .u8 0 :: .int .u8 0 :: .int .u8 0 :: .int .u8 0 :: .int .u8 0 :: .int .u8 0 :: .int .u8 0 :: .int .u8 0 :: .int .u8 0 :: .int .u8 0 :: .int .u8 0 :: .int .u8 0 :: .int .u8 0 :: .int .u8 0 :: .int .u8 0 :: .int .u8 0 :: .int .u8 0 :: .int .u8 0 :: .int .u8 0 :: .int .u8 0 :: .int .u8 0 :: .int .u8 0 :: .int .u8 0 :: .int .u8 0 :: .int .u8 0 :: .int .u8 0 :: .int .u8 0 :: .int .u8 0 :: .int .u8 0 :: .int .u8 0 :: .int .u8 0 :: .int .u8 0 :: .int .u8 0 :: .int .u8 0::[]):=by kernel_rfl
@[go_sem] theorem Tryz.ia217 (a:V) (ik:IntKind) (n:Int):Zoa Tryz.prog 217 a (.int ik n)=idxA 23 4 true a ik n:=Z3h (P:=Tryz.prog) (e:=216) (by kernel_rfl) (by kernel_rfl) (by kernel_rfl) (by decide) a ik n
@[go_sem] theorem Tryz.bla217 (l:List (Nat × V)):Zec Tryz.prog 217 l=(Zfc (mulP 4) (.int .u8 0 :: .int .u8 0 :: .int .u8 0 :: .int .u8 0 :: .int .u8 0 :: .int .u8 0 :: .int .u8 0 :: .int .u8 0 :: .int .u8 0 :: .int .u8 0 :: .int .u8 0 :: .int .u8 0 :: .int .u8 0 :: .int .u8 0 :: .int .u8 0 :: .int .u8 0 :: .int .u8 0 :: .int .u8 0 :: .int .u8 0 :: .int .u8 0 :: .int .u8 0 :: .int .u8 0 :: .int .u8 0 :: .int .u8 0 :: .int .u8 0 :: .int .u8 0 :: .int .u8 0 :: .int .u8 0 :: .int .u8 0 :: .int .u8 0 :: .int .u8 0 :: .int .u8 0 :: .int .u8 0 :: .int .u8 0 :: .int .u8 0 :: .int .u8 0 :: .int .u8 0 :: .int .u8 0 :: .int .u8 0 :: .int .u8 0 :: .int .u8 0 :: .int .u8 0 :: .int .u8 0 :: .int .u8 0 :: .int .u8 0 :: .int .u8 0 :: .int .u8 0 :: .int .u8 0 :: .int .u8 0 :: .int .u8 0 :: .int .u8 0 :: .int .u8 0 :: .int .u8 0 :: .int .u8 0 :: .int .u8 0 :: .int .u8 0 :: .int .u8 0 :: .int .u8 0 :: .int .u8 0 :: .int .u8 0 :: .int .u8 0 :: .int .u8 0 :: .int .u8 0 :: .int .u8 0 :: .int .u8 0 :: .int .u8 0 :: .int .u8 0 :: .int .u8 0 :: .int .u8 0 :: .int .u8 0 :: .int .u8 0 :: .int .u8 0 :: .int .u8 0 :: .int .u8 0 :: .int .u8 0 :: .int .u8 0 :: .int .u8 0 :: .int .u8 0 :: .int .u8 0 :: .int .u8 0 :: .int .u8 0 :: .int .u8 0 :: .int .u8 0 :: .int .u8 0 :: .int .u8 0 :: .int .u8 0 :: .int .u8 0 :: .int .u8 0 :: .int .u8 0 :: .int .u8 0 :: .int .u8 0 :: .int .u8 0::[]) l).map .agg:=Zbt (P:=Tryz.prog) (N:=23) (e:=216) (by kernel_rfl) (by kernel_rfl) (by kernel_rfl) l
theorem Zqt:Z1a Tryz.prog 220=some (true,93):=by kernel_rfl
@[go_sem] theorem Zqca (H:Heap) (a:V):Zwa Tryz.prog H 220 a=Zpc (some (true,93)) (Zwh H a) a:=Z7a Zqt H a
@[go_sem] theorem Tryz.sz220:Zgc Tryz.prog 220=some 93:=by kernel_rfl
theorem Zdu:Zkb Tryz.prog 220 0=some (0,true,92):=by kernel_rfl
@[go_sem] theorem Zdda (a:V):Zk Tryz.prog 220 a 0=Z3d (some (0,true,92)) a:=Zj Zdu a
theorem Zcu:Zkb Tryz.prog 220 1=some (92,false,1):=by kernel_rfl
@[go_sem] theorem Zcda (a:V):Zk Tryz.prog 220 a 1=Z3d (some (92,false,1)) a:=Zj Zcu a
theorem Zpt:Z1a Tryz.prog 224=some (true,3):=by kernel_rfl
@[go_sem] theorem Zpca (H:Heap) (a:V):Zwa Tryz.prog H 224 a=Zpc (some (true,3)) (Zwh H a) a:=Z7a Zpt H a
@[go_sem] theorem Tryz.sz224:Zgc Tryz.prog 224=some 3:=by kernel_rfl
@[go_sem] theorem Zcca:Zvf Tryz.prog 224=some [.str [],.int .i64 0,.int .i64 0]:=by kernel_rfl
@[go_sem] theorem Tryz.bld224 (l:List (Nat × V)):Zec Tryz.prog 224 l=(Zfc (Zhn [(0,1),(1,1),(2,1)]) [.str [],.int .i64 0,.int .i64 0] l).map .agg:=Zac (P:=Tryz.prog) (t:=224) (tbl:=[(0,1),(1,1),(2,1)]) (z:=[.str [],.int .i64 0,.int .i64 0]) (by kernel_rfl) (by kernel_rfl) l
theorem Zbu:Zkb Tryz.prog 224 0=some (0,false,1):=by kernel_rfl
@[go_sem] theorem Zbda (a:V):Zk Tryz.prog 224 a 0=Z3d (some (0,false,1)) a:=Zj Zbu a
theorem Zau:Zkb Tryz.prog 224 1=some (1,false,1):=by kernel_rfl
@[go_sem] theorem Zada (a:V):Zk Tryz.prog 224 a 1=Z3d (some (1,false,1)) a:=Zj Zau a
theorem Z9t:Zkb Tryz.prog 224 2=some (2,false,1):=by kernel_rfl
@[go_sem] theorem Z9ca (a:V):Zk Tryz.prog 224 a 2=Z3d (some (2,false,1)) a:=Zj Z9t a
theorem Zot:Z1a Tryz.prog 225=some (true,69):=by kernel_rfl
@[go_sem] theorem Zoca (H:Heap) (a:V):Zwa Tryz.prog H 225 a=Zpc (some (true,69)) (Zwh H a) a:=Z7a Zot H a
@[go_sem] theorem Tryz.sz225:Zgc Tryz.prog 225=some 69:=by kernel_rfl
@[go_sem] theorem Zbca:Zvf Tryz.prog 225=some (.str [] :: .int .i64 0 :: .int .i64 0 :: .str [] :: .int .i64 0 :: .int .i64 0 :: .str [] :: .int .i64 0 :: .int .i64 0 :: .str [] :: .int .i64 0 :: .int .i64 0 :: .str [] :: .int .i64 0 :: .int .i64 0 :: .str [] :: .int .i64 0 :: .int .i64 0 :: .str [] :: .int .i64 0 :: .int .i64 0 :: .str [] :: .int .i64 0 :: .int .i64 0 :: .str [] :: .int .i64 0 :: .int .i64 0 :: .str [] :: .int .i64 0 :: .int .i64 0 :: .str [] :: .int .i64 0 :: .int .i64 0 :: .str [] :: .int .i64 0 :: .int .i64 0 :: .str [] :: .int .i64 0 :: .int .i64 0 :: .str [] :: .int .i64 0 :: .int .i64 0 :: .str [] :: .int .i64 0 :: .int .i64 0 :: .str [] :: .int .i64 0 :: .int .i64 0 :: .str [] :: .int .i64 0 :: .int .i64 0 :: .str [] :: .int .i64 0 :: .int .i64 0 :: .str [] :: .int .i64 0 :: .int .i64 0 :: .str [] :: .int .i64 0 :: .int .i64 0 :: .str [] :: .int .i64 0 :: .int .i64 0 :: .str [] :: .int .i64 0 :: .int .i64 0 :: .str [] :: .int .i64 0 :: .int .i64 0::[]):=by kernel_rfl
@[go_sem] theorem Tryz.ia225 (a:V) (ik:IntKind) (n:Int):Zoa Tryz.prog 225 a (.int ik n)=idxA 23 3 true a ik n:=Z3h (P:=Tryz.prog) (e:=224) (by kernel_rfl) (by kernel_rfl) (by kernel_rfl) (by decide) a ik n
@[go_sem] theorem Tryz.iv225 (l:List V) (ik:IntKind) (n:Int):Z2h Tryz.prog 225 (.agg l) (.int ik n)=if 0≤n∧n<(23:Nat) then Zrj true 3 l (n.toNat * 3) else none:=Zd2 (P:=Tryz.prog) (e:=224) (by kernel_rfl) (by kernel_rfl) (by kernel_rfl) (by decide) l ik n
@[go_sem] theorem Tryz.bla225 (l:List (Nat × V)):Zec Tryz.prog 225 l=(Zfc (mulP 3) (.str [] :: .int .i64 0 :: .int .i64 0 :: .str [] :: .int .i64 0 :: .int .i64 0 :: .str [] :: .int .i64 0 :: .int .i64 0 :: .str [] :: .int .i64 0 :: .int .i64 0 :: .str [] :: .int .i64 0 :: .int .i64 0 :: .str [] :: .int .i64 0 :: .int .i64 0 :: .str [] :: .int .i64 0 :: .int .i64 0 :: .str [] :: .int .i64 0 :: .int .i64 0 :: .str [] :: .int .i64 0 :: .int .i64 0 :: .str [] :: .int .i64 0 :: .int .i64 0 :: .str [] :: .int .i64 0 :: .int .i64 0 :: .str [] :: .int .i64 0 :: .int .i64 0 :: .str [] :: .int .i64 0 :: .int .i64 0 :: .str [] :: .int .i64 0 :: .int .i64 0 :: .str [] :: .int .i64 0 :: .int .i64 0 :: .str [] :: .int .i64 0 :: .int .i64 0 :: .str [] :: .int .i64 0 :: .int .i64 0 :: .str [] :: .int .i64 0 :: .int .i64 0 :: .str [] :: .int .i64 0 :: .int .i64 0 :: .str [] :: .int .i64 0 :: .int .i64 0 :: .str [] :: .int .i64 0 :: .int .i64 0 :: .str [] :: .int .i64 0 :: .int .i64 0 :: .str [] :: .int .i64 0 :: .int .i64 0::[]) l).map .agg:=Zbt (P:=Tryz.prog) (N:=23) (e:=224) (by kernel_rfl) (by kernel_rfl) (by kernel_rfl) l
theorem Zki:Z6d Tryz.prog 268=some 2:=by kernel_rfl
@[go_sem] theorem Tryz.idx268 (a i:V):Zoa Tryz.prog 268 a i=Z0s (some 2) a i:=Zib Zki a i
@[go_sem] theorem Tryz.len268 (a:V):Z0o Tryz.prog 268 a=Zqn true a:=Z5b Zki a
@[go_sem] theorem Tryz.sl268 (a:V) (lo hi:Option V):Zzf Tryz.prog 268 a lo hi none=slK 2 a lo hi:=Zqk Zki a lo hi
@[go_sem] theorem Tryz.bs268 (n:Nat) (l:List (Nat × V)):Zpd Tryz.prog 268 n l=bsK 2 [.int .i64 0,.int .i64 0] n l:=Z6c (P:=Tryz.prog) (t:=268) (e:=271) (m:=2) (z:=[.int .i64 0,.int .i64 0]) (by kernel_rfl) (by kernel_rfl) (by kernel_rfl) rfl n l
theorem Zr0:Zdn Tryz.prog [268,268]=some (2,16):=by kernel_rfl
@[go_sem] theorem Z7da (E:Ent) (ops:Array Oper) (Q:AS→Prop) (rest:List Oper) (e:Nat) (τ : Nat→V) (H:Heap) (a b:V):Zj4 Tryz.prog E ops Q rest e τ H [268,268] a b=Zfv Tryz.prog E ops Q rest e τ H 2 16 a (Z3a H 2 b) (obS H a):=Zkj ops Zr0 e a b
theorem Znt:Z1a Tryz.prog 271=some (true,2):=by kernel_rfl
@[go_sem] theorem Znca (H:Heap) (a:V):Zwa Tryz.prog H 271 a=Zpc (some (true,2)) (Zwh H a) a:=Z7a Znt H a
@[go_sem] theorem Tryz.sz271:Zgc Tryz.prog 271=some 2:=by kernel_rfl
@[go_sem] theorem Zaca:Zvf Tryz.prog 271=some [.int .i64 0,.int .i64 0]:=by kernel_rfl
@[go_sem] theorem Tryz.bld271 (l:List (Nat × V)):Zec Tryz.prog 271 l=(Zfc (Zhn [(0,1),(1,1)]) [.int .i64 0,.int .i64 0] l).map .agg:=Zac (P:=Tryz.prog) (t:=271) (tbl:=[(0,1),(1,1)]) (z:=[.int .i64 0,.int .i64 0]) (by kernel_rfl) (by kernel_rfl) l
theorem Z8t:Zkb Tryz.prog 271 0=some (0,false,1):=by kernel_rfl
@[go_sem] theorem Z8ca (a:V):Zk Tryz.prog 271 a 0=Z3d (some (0,false,1)) a:=Zj Z8t a
theorem Z7t:Zkb Tryz.prog 271 1=some (1,false,1):=by kernel_rfl
@[go_sem] theorem Z7ca (a:V):Zk Tryz.prog 271 a 1=Z3d (some (1,false,1)) a:=Zj Z7t a
theorem Z7m:Z6d Tryz.prog 273=some 1:=by kernel_rfl
@[go_sem] theorem Tryz.idx273 (a i:V):Zoa Tryz.prog 273 a i=Z0s (some 1) a i:=Zib Z7m a i
@[go_sem] theorem Tryz.len273 (a:V):Z0o Tryz.prog 273 a=Zqn true a:=Z5b Z7m a
@[go_sem] theorem Tryz.bs273 (n:Nat) (l:List (Nat × V)):Zpd Tryz.prog 273 n l=bsK 1 [.nils] n l:=Z6c (P:=Tryz.prog) (t:=273) (e:=36) (m:=1) (z:=[.nils]) (by kernel_rfl) (by kernel_rfl) (by kernel_rfl) rfl n l
theorem Zmt:Z1a Tryz.prog 279=some (true,2):=by kernel_rfl
@[go_sem] theorem Zmca (H:Heap) (a:V):Zwa Tryz.prog H 279 a=Zpc (some (true,2)) (Zwh H a) a:=Z7a Zmt H a
@[go_sem] theorem Tryz.sz279:Zgc Tryz.prog 279=some 2:=by kernel_rfl
@[go_sem] theorem Z9ba:Zvf Tryz.prog 279=some [.nils,.bool false]:=by kernel_rfl
@[go_sem] theorem Tryz.bld279 (l:List (Nat × V)):Zec Tryz.prog 279 l=(Zfc (Zhn [(0,1),(1,1)]) [.nils,.bool false] l).map .agg:=Zac (P:=Tryz.prog) (t:=279) (tbl:=[(0,1),(1,1)]) (z:=[.nils,.bool false]) (by kernel_rfl) (by kernel_rfl) l
theorem Z6t:Zkb Tryz.prog 279 0=some (0,false,1):=by kernel_rfl
@[go_sem] theorem Z6ca (a:V):Zk Tryz.prog 279 a 0=Z3d (some (0,false,1)) a:=Zj Z6t a
theorem Z5t:Zkb Tryz.prog 279 1=some (1,false,1):=by kernel_rfl
@[go_sem] theorem Z5ca (a:V):Zk Tryz.prog 279 a 1=Z3d (some (1,false,1)) a:=Zj Z5t a
theorem Zlt:Z1a Tryz.prog 288=some (false,1):=by kernel_rfl
@[go_sem] theorem Zlca (H:Heap) (a:V):Zwa Tryz.prog H 288 a=Zpc (some (false,1)) (Zwh H a) a:=Z7a Zlt H a
@[go_sem] theorem Tryz.bld290 (l:List (Nat × V)):Zec Tryz.prog 290 l=(Zfc (Zhn [(0,1),(1,1),(2,1),(3,1),(4,1)]) [.nils,.int .i64 0,.nils,.int .i64 0,.nilf] l).map .agg:=Zac (P:=Tryz.prog) (t:=290) (tbl:=[(0,1),(1,1),(2,1),(3,1),(4,1)]) (z:=[.nils,.int .i64 0,.nils,.int .i64 0,.nilf]) (by kernel_rfl) (by kernel_rfl) l
theorem Z4t:Zkb Tryz.prog 290 0=some (0,false,1):=by kernel_rfl
@[go_sem] theorem Z4ca (a:V):Zk Tryz.prog 290 a 0=Z3d (some (0,false,1)) a:=Zj Z4t a
theorem Z3t:Zkb Tryz.prog 290 1=some (1,false,1):=by kernel_rfl
@[go_sem] theorem Z3ca (a:V):Zk Tryz.prog 290 a 1=Z3d (some (1,false,1)) a:=Zj Z3t a
theorem Z2t:Zkb Tryz.prog 290 2=some (2,false,1):=by kernel_rfl
@[go_sem] theorem Z2ca (a:V):Zk Tryz.prog 290 a 2=Z3d (some (2,false,1)) a:=Zj Z2t a
theorem Z1t:Zkb Tryz.prog 290 3=some (3,false,1):=by kernel_rfl
@[go_sem] theorem Z1ca (a:V):Zk Tryz.prog 290 a 3=Z3d (some (3,false,1)) a:=Zj Z1t a
theorem Z0t:Zkb Tryz.prog 290 4=some (4,false,1):=by kernel_rfl
@[go_sem] theorem Z0ca (a:V):Zk Tryz.prog 290 a 4=Z3d (some (4,false,1)) a:=Zj Z0t a
theorem Z6m:Z6d Tryz.prog 314=some 3:=by kernel_rfl
@[go_sem] theorem Tryz.idx314 (a i:V):Zoa Tryz.prog 314 a i=Z0s (some 3) a i:=Zib Z6m a i
@[go_sem] theorem Tryz.len314 (a:V):Z0o Tryz.prog 314 a=Zqn true a:=Z5b Z6m a
@[go_sem] theorem Tryz.iv323 (l:List V) (ik:IntKind) (n:Int):Z2h Tryz.prog 323 (.agg l) (.int ik n)=if 0≤n∧n<(3:Nat) then Zrj false 1 l (n.toNat * 1) else none:=Zd2 (P:=Tryz.prog) (e:=9) (by kernel_rfl) (by kernel_rfl) (by kernel_rfl) (by decide) l ik n
@[go_sem] theorem Tryz.bla323 (l:List (Nat × V)):Zec Tryz.prog 323 l=(Zfc (mulP 1) [.str [],.str [],.str []] l).map .agg:=Zbt (P:=Tryz.prog) (N:=3) (e:=9) (by kernel_rfl) (by kernel_rfl) (by kernel_rfl) l
@[go_sem] theorem Tryz.cv3_5 (k:IntKind) (n:Int):Z9w Tryz.prog 3 5 (.int k n)=some (.int .u8 (IntKind.wrap .u8 n)):=Zm2 (P:=Tryz.prog) (s:=3) (d:=5) (by kernel_rfl) (by kernel_rfl) k n
@[go_sem] theorem Tryz.cv5_3 (k:IntKind) (n:Int):Z9w Tryz.prog 5 3 (.int k n)=some (.int .i64 (IntKind.wrap .i64 n)):=Zm2 (P:=Tryz.prog) (s:=5) (d:=3) (by kernel_rfl) (by kernel_rfl) k n
end Go.Hs
end
