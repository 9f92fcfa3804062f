/- Part 20 of a proof; no condition. -/
import Derived.Test.YtnjcehngoajnnaaGreatDoorPart19
import Derived.Test.YtnjcehngoajnnaaGreatDoorProg
import Derived.KernelRfl
set_option linter.unusedSimpArgs false
set_option linter.unusedVariables false
section
namespace Go.Hs
open Go.Proofs
theorem Zw2:Zka Tryz.prog 2=some (false,1):=by kernel_rfl
@[go_sem] theorem Tryz.load2 (H:Heap) (a:V):Zqa Tryz.prog H 2 a=Ztb (some (false,1)) (Zof H a) a:=Zla Zw2 H a
@[go_sem] theorem Tryz.sz2:Z6b Tryz.prog 2=some 1:=by kernel_rfl
theorem Zv2:Zka Tryz.prog 3=some (false,1):=by kernel_rfl
@[go_sem] theorem Tryz.load3 (H:Heap) (a:V):Zqa Tryz.prog H 3 a=Ztb (some (false,1)) (Zof H a) a:=Zla Zv2 H a
@[go_sem] theorem Tryz.sz3:Z6b Tryz.prog 3=some 1:=by kernel_rfl
theorem Zu2:Zka Tryz.prog 4=some (false,1):=by kernel_rfl
@[go_sem] theorem Tryz.load4 (H:Heap) (a:V):Zqa Tryz.prog H 4 a=Ztb (some (false,1)) (Zof H a) a:=Zla Zu2 H a
@[go_sem] theorem Tryz.eqb4 (a b:Bool):Znh Tryz.prog .eql 4 (.bool a) (.bool b)=some (.bool (a==b)):=(Z4y (P:=Tryz.prog) (by kernel_rfl) a b).1
@[go_sem] theorem Tryz.neb4 (a b:Bool):Znh Tryz.prog .neq 4 (.bool a) (.bool b)=some (.bool (a != b)):=(Z4y (P:=Tryz.prog) (by kernel_rfl) a b).2
theorem Zt2:Zka Tryz.prog 5=some (false,1):=by kernel_rfl
@[go_sem] theorem Tryz.load5 (H:Heap) (a:V):Zqa Tryz.prog H 5 a=Ztb (some (false,1)) (Zof H a) a:=Zla Zt2 H a
@[go_sem] theorem Tryz.sz5:Z6b Tryz.prog 5=some 1:=by kernel_rfl
theorem Zs2:Zka Tryz.prog 9=some (false,1):=by kernel_rfl
@[go_sem] theorem Tryz.load9 (H:Heap) (a:V):Zqa Tryz.prog H 9 a=Ztb (some (false,1)) (Zof H a) a:=Zla Zs2 H a
@[go_sem] theorem Tryz.sz9:Z6b Tryz.prog 9=some 1:=by kernel_rfl
theorem Z6q:Z61 Tryz.prog 9=true:=by kernel_rfl
@[go_sem] theorem Tryz.len9 (a:V):Zyn Tryz.prog 9 a=Zan false a:=Zdda Z6q a
@[go_sem] theorem Tryz.ixs9 (s:List UInt8) (k:IntKind) (n:Int):Zgk Tryz.prog 9 (.str s) (.int k n)=if 0≤n then (s[n.toNat]?).map fun b => .int .u8 b.toNat else none:=Zc6 Z6q s k n
@[go_sem] theorem Tryz.sls9 (s:List UInt8) (lo hi:Option V):Zqg Tryz.prog 9 (.str s) lo hi none=slJ (Zpa 0 lo) (Zpa s.length hi) fun i j=>if i≤j∧j≤s.length then some (.str ((s.drop i).take (j-i))) else none:=Zc5 Z6q s lo hi
theorem Zwz:Zka Tryz.prog 22=some (false,1):=by kernel_rfl
@[go_sem] theorem Tryz.load22 (H:Heap) (a:V):Zqa Tryz.prog H 22 a=Ztb (some (false,1)) (Zof H a) a:=Zla Zwz H a
@[go_sem] theorem Tryz.sz22:Z6b Tryz.prog 22=some 1:=by kernel_rfl
theorem Zkr:Zrd Tryz.prog 22=some 6:=by kernel_rfl
@[go_sem] theorem Tryz.idx22 (a i:V):Zja Tryz.prog 22 a i=Zor (some 6) a i:=Z4a Zkr a i
@[go_sem] theorem Tryz.len22 (a:V):Zyn Tryz.prog 22 a=Zan true a:=Zpb Zkr a
@[go_sem] theorem Tryz.bs22 (n:Nat) (l:List (Nat × V)):Z4c Tryz.prog 22 n l=bsK 6 [.int .u8 0,.int .i64 0,.str [],.int .i64 0,.int .i64 0,.int .i64 0] n l:=Zgc (P:=Tryz.prog) (t:=22) (e:=59) (m:=6) (z:=[.int .u8 0,.int .i64 0,.str [],.int .i64 0,.int .i64 0,.int .i64 0]) (by kernel_rfl) (by kernel_rfl) (by kernel_rfl) rfl n l
theorem Z76:Z8j Tryz.prog [22,22]=some (6,56):=by kernel_rfl
@[go_sem] theorem Tryz.appc22 (E:Ent) (ops:Array Oper) (Q:AS→Prop) (rest:List Oper) (e:Nat) (τ : Nat→V) (H:Heap) (a b:V):Z6y Tryz.prog E ops Q rest e τ H [22,22] a b=Zpr Tryz.prog E ops Q rest e τ H 6 56 a (Z9a H 6 b) (obS H a):=Zzg ops Z76 e a b
theorem Zvz:Zka Tryz.prog 24=some (true,1):=by kernel_rfl
@[go_sem] theorem Tryz.load24 (H:Heap) (a:V):Zqa Tryz.prog H 24 a=Ztb (some (true,1)) (Zof H a) a:=Zla Zvz H a
@[go_sem] theorem Tryz.sz24:Z6b Tryz.prog 24=some 1:=by kernel_rfl
@[go_sem] theorem Tryz.zero24:Zzd Tryz.prog 24=some [.nils]:=by kernel_rfl
@[go_sem] theorem Tryz.bld24 (l:List (Nat × V)):Z8a Tryz.prog 24 l=(Zkb (Zwh [(0,1)]) [.nils] l).map .agg:=Zva (P:=Tryz.prog) (t:=24) (tbl:=[(0,1)]) (z:=[.nils]) (by kernel_rfl) (by kernel_rfl) l
theorem Zr0:Zma Tryz.prog 24 0=some (0,false,1):=by kernel_rfl
@[go_sem] theorem Tryz.fa24_0 (a:V):Zj Tryz.prog 24 a 0=Zlc (some (0,false,1)) a:=Zg Zr0 a
theorem Zuz:Zka Tryz.prog 25=some (false,1):=by kernel_rfl
@[go_sem] theorem Tryz.load25 (H:Heap) (a:V):Zqa Tryz.prog H 25 a=Ztb (some (false,1)) (Zof H a) a:=Zla Zuz H a
theorem Z4aa:Ztk Tryz.prog 25=2:=by kernel_rfl
@[go_sem] theorem Tryz.eqn25 (a:V):Znh Tryz.prog .eql 25 a .nils=(nilK 2 a).map .bool:=(Zr4 _ _ Z4aa (by simp) a).1
theorem Zjr:Zrd Tryz.prog 25=some 2:=by kernel_rfl
@[go_sem] theorem Tryz.idx25 (a i:V):Zja Tryz.prog 25 a i=Zor (some 2) a i:=Z4a Zjr a i
@[go_sem] theorem Tryz.len25 (a:V):Zyn Tryz.prog 25 a=Zan true a:=Zpb Zjr a
@[go_sem] theorem Tryz.bs25 (n:Nat) (l:List (Nat × V)):Z4c Tryz.prog 25 n l=bsK 2 [.str [],.int .i64 0] n l:=Zgc (P:=Tryz.prog) (t:=25) (e:=55) (m:=2) (z:=[.str [],.int .i64 0]) (by kernel_rfl) (by kernel_rfl) (by kernel_rfl) rfl n l
theorem Z66:Z8j Tryz.prog [25,25]=some (2,24):=by kernel_rfl
@[go_sem] theorem Tryz.appc25 (E:Ent) (ops:Array Oper) (Q:AS→Prop) (rest:List Oper) (e:Nat) (τ : Nat→V) (H:Heap) (a b:V):Z6y Tryz.prog E ops Q rest e τ H [25,25] a b=Zpr Tryz.prog E ops Q rest e τ H 2 24 a (Z9a H 2 b) (obS H a):=Zzg ops Z66 e a b
theorem Ztz:Zka Tryz.prog 30=some (false,1):=by kernel_rfl
@[go_sem] theorem Tryz.load30 (H:Heap) (a:V):Zqa Tryz.prog H 30 a=Ztb (some (false,1)) (Zof H a) a:=Zla Ztz H a
@[go_sem] theorem Tryz.sz30:Z6b Tryz.prog 30=some 1:=by kernel_rfl
@[go_sem] theorem Tryz.zero30:Zzd Tryz.prog 30=some [.int .i64 0]:=by kernel_rfl
theorem Zsz:Zka Tryz.prog 34=some (true,3):=by kernel_rfl
@[go_sem] theorem Tryz.load34 (H:Heap) (a:V):Zqa Tryz.prog H 34 a=Ztb (some (true,3)) (Zof H a) a:=Zla Zsz H a
@[go_sem] theorem Tryz.sz34:Z6b Tryz.prog 34=some 3:=by kernel_rfl
@[go_sem] theorem Tryz.zero34:Zzd Tryz.prog 34=some [.int .u8 0,.int .i64 0,.bool false]:=by kernel_rfl
@[go_sem] theorem Tryz.bld34 (l:List (Nat × V)):Z8a Tryz.prog 34 l=(Zkb (Zwh [(0,1),(1,1),(2,1)]) [.int .u8 0,.int .i64 0,.bool false] l).map .agg:=Zva (P:=Tryz.prog) (t:=34) (tbl:=[(0,1),(1,1),(2,1)]) (z:=[.int .u8 0,.int .i64 0,.bool false]) (by kernel_rfl) (by kernel_rfl) l
theorem Zq0:Zma Tryz.prog 34 0=some (0,false,1):=by kernel_rfl
@[go_sem] theorem Tryz.fa34_0 (a:V):Zj Tryz.prog 34 a 0=Zlc (some (0,false,1)) a:=Zg Zq0 a
theorem Z4n:Zma Tryz.prog 34 1=some (1,false,1):=by kernel_rfl
@[go_sem] theorem Tryz.fa34_1 (a:V):Zj Tryz.prog 34 a 1=Zlc (some (1,false,1)) a:=Zg Z4n a
@[go_sem] theorem Tryz.fv34_1 (l:List V):Zfm Tryz.prog 34 (.agg l) 1=Z7j false 1 l 1:=Ziu Z4n l
theorem Zp0:Zma Tryz.prog 34 2=some (2,false,1):=by kernel_rfl
@[go_sem] theorem Tryz.fv34_2 (l:List V):Zfm Tryz.prog 34 (.agg l) 2=Z7j false 1 l 2:=Ziu Zp0 l
@[go_sem] theorem Tryz.eqls34 (x0 y0:Int) (x1 y1:Int) (x2 y2:Bool):Znh Tryz.prog .eql 34 (.agg [.int .u8 x0,.int .i64 x1,.bool x2]) (.agg [.int .u8 y0,.int .i64 y1,.bool y2])=some (.bool (x0==y0 && (x1==y1 && (x2==y2 && true)))):=(Zim (P:=Tryz.prog) (t:=34) (by kernel_rfl) (Zxj (Zxj (Zsy Zuo x2 y2) .i64 x1 y1) .u8 x0 y0)).1
theorem Zrz:Zka Tryz.prog 39=some (false,1):=by kernel_rfl
@[go_sem] theorem Tryz.load39 (H:Heap) (a:V):Zqa Tryz.prog H 39 a=Ztb (some (false,1)) (Zof H a) a:=Zla Zrz H a
@[go_sem] theorem Tryz.sz39:Z6b Tryz.prog 39=some 1:=by kernel_rfl
theorem Zir:Zrd Tryz.prog 39=some 6:=by kernel_rfl
@[go_sem] theorem Tryz.idx39 (a i:V):Zja Tryz.prog 39 a i=Zor (some 6) a i:=Z4a Zir a i
@[go_sem] theorem Tryz.len39 (a:V):Zyn Tryz.prog 39 a=Zan true a:=Zpb Zir a
@[go_sem] theorem Tryz.bs39 (n:Nat) (l:List (Nat × V)):Z4c Tryz.prog 39 n l=bsK 6 [.int .u8 0,.int .i64 0,.str [],.int .i64 0,.int .i64 0,.int .i64 0] n l:=Zgc (P:=Tryz.prog) (t:=39) (e:=109) (m:=6) (z:=[.int .u8 0,.int .i64 0,.str [],.int .i64 0,.int .i64 0,.int .i64 0]) (by kernel_rfl) (by kernel_rfl) (by kernel_rfl) rfl n l
theorem Z56:Z8j Tryz.prog [39,39]=some (6,56):=by kernel_rfl
@[go_sem] theorem Tryz.appc39 (E:Ent) (ops:Array Oper) (Q:AS→Prop) (rest:List Oper) (e:Nat) (τ : Nat→V) (H:Heap) (a b:V):Z6y Tryz.prog E ops Q rest e τ H [39,39] a b=Zpr Tryz.prog E ops Q rest e τ H 6 56 a (Z9a H 6 b) (obS H a):=Zzg ops Z56 e a b
theorem Zqz:Zka Tryz.prog 41=some (false,1):=by kernel_rfl
@[go_sem] theorem Tryz.load41 (H:Heap) (a:V):Zqa Tryz.prog H 41 a=Ztb (some (false,1)) (Zof H a) a:=Zla Zqz H a
@[go_sem] theorem Tryz.sz41:Z6b Tryz.prog 41=some 1:=by kernel_rfl
theorem Zhr:Zrd Tryz.prog 41=some 2:=by kernel_rfl
@[go_sem] theorem Tryz.idx41 (a i:V):Zja Tryz.prog 41 a i=Zor (some 2) a i:=Z4a Zhr a i
@[go_sem] theorem Tryz.len41 (a:V):Zyn Tryz.prog 41 a=Zan true a:=Zpb Zhr a
@[go_sem] theorem Tryz.bs41 (n:Nat) (l:List (Nat × V)):Z4c Tryz.prog 41 n l=bsK 2 [.str [],.int .i64 0] n l:=Zgc (P:=Tryz.prog) (t:=41) (e:=80) (m:=2) (z:=[.str [],.int .i64 0]) (by kernel_rfl) (by kernel_rfl) (by kernel_rfl) rfl n l
theorem Z46:Z8j Tryz.prog [41,41]=some (2,24):=by kernel_rfl
@[go_sem] theorem Tryz.appc41 (E:Ent) (ops:Array Oper) (Q:AS→Prop) (rest:List Oper) (e:Nat) (τ : Nat→V) (H:Heap) (a b:V):Z6y Tryz.prog E ops Q rest e τ H [41,41] a b=Zpr Tryz.prog E ops Q rest e τ H 2 24 a (Z9a H 2 b) (obS H a):=Zzg ops Z46 e a b
theorem Zpz:Zka Tryz.prog 43=some (true,3):=by kernel_rfl
@[go_sem] theorem Tryz.load43 (H:Heap) (a:V):Zqa Tryz.prog H 43 a=Ztb (some (true,3)) (Zof H a) a:=Zla Zpz H a
@[go_sem] theorem Tryz.sz43:Z6b Tryz.prog 43=some 3:=by kernel_rfl
@[go_sem] theorem Tryz.zero43:Zzd Tryz.prog 43=some [.int .u8 0,.int .i64 0,.bool false]:=by kernel_rfl
@[go_sem] theorem Tryz.bld43 (l:List (Nat × V)):Z8a Tryz.prog 43 l=(Zkb (Zwh [(0,1),(1,1),(2,1)]) [.int .u8 0,.int .i64 0,.bool false] l).map .agg:=Zva (P:=Tryz.prog) (t:=43) (tbl:=[(0,1),(1,1),(2,1)]) (z:=[.int .u8 0,.int .i64 0,.bool false]) (by kernel_rfl) (by kernel_rfl) l
theorem Zo0:Zma Tryz.prog 43 0=some (0,false,1):=by kernel_rfl
@[go_sem] theorem Tryz.fa43_0 (a:V):Zj Tryz.prog 43 a 0=Zlc (some (0,false,1)) a:=Zg Zo0 a
theorem Zn0:Zma Tryz.prog 43 1=some (1,false,1):=by kernel_rfl
@[go_sem] theorem Tryz.fa43_1 (a:V):Zj Tryz.prog 43 a 1=Zlc (some (1,false,1)) a:=Zg Zn0 a
theorem Zm0:Zma Tryz.prog 43 2=some (2,false,1):=by kernel_rfl
@[go_sem] theorem Tryz.fa43_2 (a:V):Zj Tryz.prog 43 a 2=Zlc (some (2,false,1)) a:=Zg Zm0 a
@[go_sem] theorem Tryz.eqls43 (x0 y0:Int) (x1 y1:Int) (x2 y2:Bool):Znh Tryz.prog .eql 43 (.agg [.int .u8 x0,.int .i64 x1,.bool x2]) (.agg [.int .u8 y0,.int .i64 y1,.bool y2])=some (.bool (x0==y0 && (x1==y1 && (x2==y2 && true)))):=(Zim (P:=Tryz.prog) (t:=43) (by kernel_rfl) (Zxj (Zxj (Zsy Zuo x2 y2) .i64 x1 y1) .u8 x0 y0)).1
theorem Zoz:Zka Tryz.prog 53=some (false,1):=by kernel_rfl
@[go_sem] theorem Tryz.load53 (H:Heap) (a:V):Zqa Tryz.prog H 53 a=Ztb (some (false,1)) (Zof H a) a:=Zla Zoz H a
theorem Z3aa:Ztk Tryz.prog 53=2:=by kernel_rfl
@[go_sem] theorem Tryz.eqn53 (a:V):Znh Tryz.prog .eql 53 a .nils=(nilK 2 a).map .bool:=(Zr4 _ _ Z3aa (by simp) a).1
theorem Zgr:Zrd Tryz.prog 53=some 1:=by kernel_rfl
@[go_sem] theorem Tryz.idx53 (a i:V):Zja Tryz.prog 53 a i=Zor (some 1) a i:=Z4a Zgr a i
@[go_sem] theorem Tryz.len53 (a:V):Zyn Tryz.prog 53 a=Zan true a:=Zpb Zgr a
@[go_sem] theorem Tryz.bs53 (n:Nat) (l:List (Nat × V)):Z4c Tryz.prog 53 n l=bsK 1 [.str []] n l:=Zgc (P:=Tryz.prog) (t:=53) (e:=9) (m:=1) (z:=[.str []]) (by kernel_rfl) (by kernel_rfl) (by kernel_rfl) rfl n l
theorem Z36:Z8j Tryz.prog [53,53]=some (1,16):=by kernel_rfl
@[go_sem] theorem Tryz.appc53 (E:Ent) (ops:Array Oper) (Q:AS→Prop) (rest:List Oper) (e:Nat) (τ : Nat→V) (H:Heap) (a b:V):Z6y Tryz.prog E ops Q rest e τ H [53,53] a b=Zpr Tryz.prog E ops Q rest e τ H 1 16 a (Z9a H 1 b) (obS H a):=Zzg ops Z36 e a b
theorem Znz:Zka Tryz.prog 55=some (true,2):=by kernel_rfl
@[go_sem] theorem Tryz.load55 (H:Heap) (a:V):Zqa Tryz.prog H 55 a=Ztb (some (true,2)) (Zof H a) a:=Zla Znz H a
@[go_sem] theorem Tryz.bld55 (l:List (Nat × V)):Z8a Tryz.prog 55 l=(Zkb (Zwh [(0,1),(1,1)]) [.str [],.int .i64 0] l).map .agg:=Zva (P:=Tryz.prog) (t:=55) (tbl:=[(0,1),(1,1)]) (z:=[.str [],.int .i64 0]) (by kernel_rfl) (by kernel_rfl) l
theorem Zl0:Zma Tryz.prog 55 0=some (0,false,1):=by kernel_rfl
@[go_sem] theorem Tryz.fa55_0 (a:V):Zj Tryz.prog 55 a 0=Zlc (some (0,false,1)) a:=Zg Zl0 a
theorem Zk0:Zma Tryz.prog 55 1=some (1,false,1):=by kernel_rfl
@[go_sem] theorem Tryz.fa55_1 (a:V):Zj Tryz.prog 55 a 1=Zlc (some (1,false,1)) a:=Zg Zk0 a
theorem Zmz:Zka Tryz.prog 59=some (true,6):=by kernel_rfl
@[go_sem] theorem Tryz.load59 (H:Heap) (a:V):Zqa Tryz.prog H 59 a=Ztb (some (true,6)) (Zof H a) a:=Zla Zmz H a
@[go_sem] theorem Tryz.sz59:Z6b Tryz.prog 59=some 6:=by kernel_rfl
@[go_sem] theorem Tryz.zero59:Zzd Tryz.prog 59=some [.int .u8 0,.int .i64 0,.str [],.int .i64 0,.int .i64 0,.int .i64 0]:=by kernel_rfl
@[go_sem] theorem Tryz.bld59 (l:List (Nat × V)):Z8a Tryz.prog 59 l=(Zkb (Zwh [(0,1),(1,1),(2,1),(3,1),(4,1),(5,1)]) [.int .u8 0,.int .i64 0,.str [],.int .i64 0,.int .i64 0,.int .i64 0] l).map .agg:=Zva (P:=Tryz.prog) (t:=59) (tbl:=[(0,1),(1,1),(2,1),(3,1),(4,1),(5,1)]) (z:=[.int .u8 0,.int .i64 0,.str [],.int .i64 0,.int .i64 0,.int .i64 0]) (by kernel_rfl) (by kernel_rfl) l
theorem Zj0:Zma Tryz.prog 59 0=some (0,false,1):=by kernel_rfl
@[go_sem] theorem Tryz.fa59_0 (a:V):Zj Tryz.prog 59 a 0=Zlc (some (0,false,1)) a:=Zg Zj0 a
theorem Zi0:Zma Tryz.prog 59 1=some (1,false,1):=by kernel_rfl
@[go_sem] theorem Tryz.fa59_1 (a:V):Zj Tryz.prog 59 a 1=Zlc (some (1,false,1)) a:=Zg Zi0 a
theorem Zh0:Zma Tryz.prog 59 2=some (2,false,1):=by kernel_rfl
@[go_sem] theorem Tryz.fa59_2 (a:V):Zj Tryz.prog 59 a 2=Zlc (some (2,false,1)) a:=Zg Zh0 a
theorem Zg0:Zma Tryz.prog 59 3=some (3,false,1):=by kernel_rfl
@[go_sem] theorem Tryz.fa59_3 (a:V):Zj Tryz.prog 59 a 3=Zlc (some (3,false,1)) a:=Zg Zg0 a
theorem Zf0:Zma Tryz.prog 59 4=some (4,false,1):=by kernel_rfl
@[go_sem] theorem Tryz.fa59_4 (a:V):Zj Tryz.prog 59 a 4=Zlc (some (4,false,1)) a:=Zg Zf0 a
theorem Ze0:Zma Tryz.prog 59 5=some (5,false,1):=by kernel_rfl
@[go_sem] theorem Tryz.fa59_5 (a:V):Zj Tryz.prog 59 a 5=Zlc (some (5,false,1)) a:=Zg Ze0 a
theorem Zlz:Zka Tryz.prog 61=some (false,1):=by kernel_rfl
@[go_sem] theorem Tryz.load61 (H:Heap) (a:V):Zqa Tryz.prog H 61 a=Ztb (some (false,1)) (Zof H a) a:=Zla Zlz H a
@[go_sem] theorem Tryz.sz61:Z6b Tryz.prog 61=some 1:=by kernel_rfl
theorem Zbl:Zrd Tryz.prog 61=some 3:=by kernel_rfl
@[go_sem] theorem Tryz.idx61 (a i:V):Zja Tryz.prog 61 a i=Zor (some 3) a i:=Z4a Zbl a i
@[go_sem] theorem Tryz.len61 (a:V):Zyn Tryz.prog 61 a=Zan true a:=Zpb Zbl a
@[go_sem] theorem Tryz.sl61 (a:V) (lo hi:Option V):Zqg Tryz.prog 61 a lo hi none=slK 3 a lo hi:=Zol Zbl a lo hi
@[go_sem] theorem Tryz.bs61 (n:Nat) (l:List (Nat × V)):Z4c Tryz.prog 61 n l=bsK 3 [.int .u8 0,.str [],.nils] n l:=Zgc (P:=Tryz.prog) (t:=61) (e:=92) (m:=3) (z:=[.int .u8 0,.str [],.nils]) (by kernel_rfl) (by kernel_rfl) (by kernel_rfl) rfl n l
theorem Z26:Z8j Tryz.prog [61,61]=some (3,48):=by kernel_rfl
@[go_sem] theorem Tryz.appc61 (E:Ent) (ops:Array Oper) (Q:AS→Prop) (rest:List Oper) (e:Nat) (τ : Nat→V) (H:Heap) (a b:V):Z6y Tryz.prog E ops Q rest e τ H [61,61] a b=Zpr Tryz.prog E ops Q rest e τ H 3 48 a (Z9a H 3 b) (obS H a):=Zzg ops Z26 e a b
theorem Zkz:Zka Tryz.prog 63=some (true,1):=by kernel_rfl
@[go_sem] theorem Tryz.load63 (H:Heap) (a:V):Zqa Tryz.prog H 63 a=Ztb (some (true,1)) (Zof H a) a:=Zla Zkz H a
@[go_sem] theorem Tryz.sz63:Z6b Tryz.prog 63=some 1:=by kernel_rfl
@[go_sem] theorem Tryz.zero63:Zzd Tryz.prog 63=some [.nils]:=by kernel_rfl
@[go_sem] theorem Tryz.bld63 (l:List (Nat × V)):Z8a Tryz.prog 63 l=(Zkb (Zwh [(0,1)]) [.nils] l).map .agg:=Zva (P:=Tryz.prog) (t:=63) (tbl:=[(0,1)]) (z:=[.nils]) (by kernel_rfl) (by kernel_rfl) l
theorem Zd0:Zma Tryz.prog 63 0=some (0,false,1):=by kernel_rfl
@[go_sem] theorem Tryz.fa63_0 (a:V):Zj Tryz.prog 63 a 0=Zlc (some (0,false,1)) a:=Zg Zd0 a
theorem Zjz:Zka Tryz.prog 65=some (false,1):=by kernel_rfl
@[go_sem] theorem Tryz.load65 (H:Heap) (a:V):Zqa Tryz.prog H 65 a=Ztb (some (false,1)) (Zof H a) a:=Zla Zjz H a
@[go_sem] theorem Tryz.sz65:Z6b Tryz.prog 65=some 1:=by kernel_rfl
theorem Zfr:Zrd Tryz.prog 65=some 2:=by kernel_rfl
@[go_sem] theorem Tryz.idx65 (a i:V):Zja Tryz.prog 65 a i=Zor (some 2) a i:=Z4a Zfr a i
@[go_sem] theorem Tryz.len65 (a:V):Zyn Tryz.prog 65 a=Zan true a:=Zpb Zfr a
@[go_sem] theorem Tryz.bs65 (n:Nat) (l:List (Nat × V)):Z4c Tryz.prog 65 n l=bsK 2 [.str [],.int .i64 0] n l:=Zgc (P:=Tryz.prog) (t:=65) (e:=129) (m:=2) (z:=[.str [],.int .i64 0]) (by kernel_rfl) (by kernel_rfl) (by kernel_rfl) rfl n l
theorem Z16:Z8j Tryz.prog [65,65]=some (2,24):=by kernel_rfl
@[go_sem] theorem Tryz.appc65 (E:Ent) (ops:Array Oper) (Q:AS→Prop) (rest:List Oper) (e:Nat) (τ : Nat→V) (H:Heap) (a b:V):Z6y Tryz.prog E ops Q rest e τ H [65,65] a b=Zpr Tryz.prog E ops Q rest e τ H 2 24 a (Z9a H 2 b) (obS H a):=Zzg ops Z16 e a b
theorem Ziz:Zka Tryz.prog 67=some (true,3):=by kernel_rfl
@[go_sem] theorem Tryz.load67 (H:Heap) (a:V):Zqa Tryz.prog H 67 a=Ztb (some (true,3)) (Zof H a) a:=Zla Ziz H a
@[go_sem] theorem Tryz.sz67:Z6b Tryz.prog 67=some 3:=by kernel_rfl
@[go_sem] theorem Tryz.zero67:Zzd Tryz.prog 67=some [.nils,.nils,.int .i64 0]:=by kernel_rfl
@[go_sem] theorem Tryz.bld67 (l:List (Nat × V)):Z8a Tryz.prog 67 l=(Zkb (Zwh [(0,1),(1,1),(2,1)]) [.nils,.nils,.int .i64 0] l).map .agg:=Zva (P:=Tryz.prog) (t:=67) (tbl:=[(0,1),(1,1),(2,1)]) (z:=[.nils,.nils,.int .i64 0]) (by kernel_rfl) (by kernel_rfl) l
theorem Zc0:Zma Tryz.prog 67 0=some (0,false,1):=by kernel_rfl
@[go_sem] theorem Tryz.fa67_0 (a:V):Zj Tryz.prog 67 a 0=Zlc (some (0,false,1)) a:=Zg Zc0 a
theorem Zb0:Zma Tryz.prog 67 1=some (1,false,1):=by kernel_rfl
@[go_sem] theorem Tryz.fa67_1 (a:V):Zj Tryz.prog 67 a 1=Zlc (some (1,false,1)) a:=Zg Zb0 a
theorem Za0:Zma Tryz.prog 67 2=some (2,false,1):=by kernel_rfl
@[go_sem] theorem Tryz.fa67_2 (a:V):Zj Tryz.prog 67 a 2=Zlc (some (2,false,1)) a:=Zg Za0 a
theorem Zer:Zrd Tryz.prog 70=some 3:=by kernel_rfl
@[go_sem] theorem Tryz.idx70 (a i:V):Zja Tryz.prog 70 a i=Zor (some 3) a i:=Z4a Zer a i
@[go_sem] theorem Tryz.len70 (a:V):Zyn Tryz.prog 70 a=Zan true a:=Zpb Zer a
@[go_sem] theorem Tryz.bs70 (n:Nat) (l:List (Nat × V)):Z4c Tryz.prog 70 n l=bsK 3 [.int .u8 0,.str [],.nils] n l:=Zgc (P:=Tryz.prog) (t:=70) (e:=128) (m:=3) (z:=[.int .u8 0,.str [],.nils]) (by kernel_rfl) (by kernel_rfl) (by kernel_rfl) rfl n l
theorem Z06:Z8j Tryz.prog [70,70]=some (3,48):=by kernel_rfl
@[go_sem] theorem Tryz.appc70 (E:Ent) (ops:Array Oper) (Q:AS→Prop) (rest:List Oper) (e:Nat) (τ : Nat→V) (H:Heap) (a b:V):Z6y Tryz.prog E ops Q rest e τ H [70,70] a b=Zpr Tryz.prog E ops Q rest e τ H 3 48 a (Z9a H 3 b) (obS H a):=Zzg ops Z06 e a b
theorem Zhz:Zka Tryz.prog 72=some (false,1):=by kernel_rfl
@[go_sem] theorem Tryz.load72 (H:Heap) (a:V):Zqa Tryz.prog H 72 a=Ztb (some (false,1)) (Zof H a) a:=Zla Zhz H a
@[go_sem] theorem Tryz.sz72:Z6b Tryz.prog 72=some 1:=by kernel_rfl
theorem Zdr:Zrd Tryz.prog 72=some 2:=by kernel_rfl
@[go_sem] theorem Tryz.idx72 (a i:V):Zja Tryz.prog 72 a i=Zor (some 2) a i:=Z4a Zdr a i
@[go_sem] theorem Tryz.len72 (a:V):Zyn Tryz.prog 72 a=Zan true a:=Zpb Zdr a
@[go_sem] theorem Tryz.bs72 (n:Nat) (l:List (Nat × V)):Z4c Tryz.prog 72 n l=bsK 2 [.str [],.int .i64 0] n l:=Zgc (P:=Tryz.prog) (t:=72) (e:=79) (m:=2) (z:=[.str [],.int .i64 0]) (by kernel_rfl) (by kernel_rfl) (by kernel_rfl) rfl n l
theorem Zz6:Z8j Tryz.prog [72,72]=some (2,24):=by kernel_rfl
@[go_sem] theorem Tryz.appc72 (E:Ent) (ops:Array Oper) (Q:AS→Prop) (rest:List Oper) (e:Nat) (τ : Nat→V) (H:Heap) (a b:V):Z6y Tryz.prog E ops Q rest e τ H [72,72] a b=Zpr Tryz.prog E ops Q rest e τ H 2 24 a (Z9a H 2 b) (obS H a):=Zzg ops Zz6 e a b
theorem Zgz:Zka Tryz.prog 74=some (true,3):=by kernel_rfl
@[go_sem] theorem Tryz.load74 (H:Heap) (a:V):Zqa Tryz.prog H 74 a=Ztb (some (true,3)) (Zof H a) a:=Zla Zgz H a
@[go_sem] theorem Tryz.sz74:Z6b Tryz.prog 74=some 3:=by kernel_rfl
@[go_sem] theorem Tryz.zero74:Zzd Tryz.prog 74=some [.nils,.nils,.int .i64 0]:=by kernel_rfl
@[go_sem] theorem Tryz.bld74 (l:List (Nat × V)):Z8a Tryz.prog 74 l=(Zkb (Zwh [(0,1),(1,1),(2,1)]) [.nils,.nils,.int .i64 0] l).map .agg:=Zva (P:=Tryz.prog) (t:=74) (tbl:=[(0,1),(1,1),(2,1)]) (z:=[.nils,.nils,.int .i64 0]) (by kernel_rfl) (by kernel_rfl) l
theorem Z9z:Zma Tryz.prog 74 0=some (0,false,1):=by kernel_rfl
@[go_sem] theorem Tryz.fa74_0 (a:V):Zj Tryz.prog 74 a 0=Zlc (some (0,false,1)) a:=Zg Z9z a
theorem Z8z:Zma Tryz.prog 74 1=some (1,false,1):=by kernel_rfl
@[go_sem] theorem Tryz.fa74_1 (a:V):Zj Tryz.prog 74 a 1=Zlc (some (1,false,1)) a:=Zg Z8z a
theorem Z7z:Zma Tryz.prog 74 2=some (2,false,1):=by kernel_rfl
@[go_sem] theorem Tryz.fa74_2 (a:V):Zj Tryz.prog 74 a 2=Zlc (some (2,false,1)) a:=Zg Z7z a
theorem Zfz:Zka Tryz.prog 79=some (true,2):=by kernel_rfl
@[go_sem] theorem Tryz.load79 (H:Heap) (a:V):Zqa Tryz.prog H 79 a=Ztb (some (true,2)) (Zof H a) a:=Zla Zfz H a
@[go_sem] theorem Tryz.bld79 (l:List (Nat × V)):Z8a Tryz.prog 79 l=(Zkb (Zwh [(0,1),(1,1)]) [.str [],.int .i64 0] l).map .agg:=Zva (P:=Tryz.prog) (t:=79) (tbl:=[(0,1),(1,1)]) (z:=[.str [],.int .i64 0]) (by kernel_rfl) (by kernel_rfl) l
theorem Z6z:Zma Tryz.prog 79 0=some (0,false,1):=by kernel_rfl
@[go_sem] theorem Tryz.fa79_0 (a:V):Zj Tryz.prog 79 a 0=Zlc (some (0,false,1)) a:=Zg Z6z a
theorem Z5z:Zma Tryz.prog 79 1=some (1,false,1):=by kernel_rfl
@[go_sem] theorem Tryz.fa79_1 (a:V):Zj Tryz.prog 79 a 1=Zlc (some (1,false,1)) a:=Zg Z5z a
@[go_sem] theorem Tryz.neqs79 (x0 y0:List UInt8) (x1 y1:Int):Znh Tryz.prog .neq 79 (.agg [.str x0,.int .i64 x1]) (.agg [.str y0,.int .i64 y1])=some (.bool (!(x0==y0 && (x1==y1 && true)))):=(Zim (P:=Tryz.prog) (t:=79) (by kernel_rfl) (Zj4 (Zxj Zuo .i64 x1 y1) x0 y0)).2
theorem Zez:Zka Tryz.prog 80=some (true,2):=by kernel_rfl
@[go_sem] theorem Tryz.load80 (H:Heap) (a:V):Zqa Tryz.prog H 80 a=Ztb (some (true,2)) (Zof H a) a:=Zla Zez H a
@[go_sem] theorem Tryz.bld80 (l:List (Nat × V)):Z8a Tryz.prog 80 l=(Zkb (Zwh [(0,1),(1,1)]) [.str [],.int .i64 0] l).map .agg:=Zva (P:=Tryz.prog) (t:=80) (tbl:=[(0,1),(1,1)]) (z:=[.str [],.int .i64 0]) (by kernel_rfl) (by kernel_rfl) l
theorem Z4z:Zma Tryz.prog 80 0=some (0,false,1):=by kernel_rfl
@[go_sem] theorem Tryz.fa80_0 (a:V):Zj Tryz.prog 80 a 0=Zlc (some (0,false,1)) a:=Zg Z4z a
theorem Z3z:Zma Tryz.prog 80 1=some (1,false,1):=by kernel_rfl
@[go_sem] theorem Tryz.fa80_1 (a:V):Zj Tryz.prog 80 a 1=Zlc (some (1,false,1)) a:=Zg Z3z a
@[go_sem] theorem Tryz.neqs80 (x0 y0:List UInt8) (x1 y1:Int):Znh Tryz.prog .neq 80 (.agg [.str x0,.int .i64 x1]) (.agg [.str y0,.int .i64 y1])=some (.bool (!(x0==y0 && (x1==y1 && true)))):=(Zim (P:=Tryz.prog) (t:=80) (by kernel_rfl) (Zj4 (Zxj Zuo .i64 x1 y1) x0 y0)).2
theorem Zdz:Zka Tryz.prog 92=some (true,3):=by kernel_rfl
@[go_sem] theorem Tryz.load92 (H:Heap) (a:V):Zqa Tryz.prog H 92 a=Ztb (some (true,3)) (Zof H a) a:=Zla Zdz H a
@[go_sem] theorem Tryz.sz92:Z6b Tryz.prog 92=some 3:=by kernel_rfl
@[go_sem] theorem Tryz.zero92:Zzd Tryz.prog 92=some [.int .u8 0,.str [],.nils]:=by kernel_rfl
@[go_sem] theorem Tryz.bld92 (l:List (Nat × V)):Z8a Tryz.prog 92 l=(Zkb (Zwh [(0,1),(1,1),(2,1)]) [.int .u8 0,.str [],.nils] l).map .agg:=Zva (P:=Tryz.prog) (t:=92) (tbl:=[(0,1),(1,1),(2,1)]) (z:=[.int .u8 0,.str [],.nils]) (by kernel_rfl) (by kernel_rfl) l
theorem Z2z:Zma Tryz.prog 92 0=some (0,false,1):=by kernel_rfl
@[go_sem] theorem Tryz.fa92_0 (a:V):Zj Tryz.prog 92 a 0=Zlc (some (0,false,1)) a:=Zg Z2z a
theorem Z1z:Zma Tryz.prog 92 1=some (1,false,1):=by kernel_rfl
@[go_sem] theorem Tryz.fa92_1 (a:V):Zj Tryz.prog 92 a 1=Zlc (some (1,false,1)) a:=Zg Z1z a
theorem Z0z:Zma Tryz.prog 92 2=some (2,true,1):=by kernel_rfl
@[go_sem] theorem Tryz.fa92_2 (a:V):Zj Tryz.prog 92 a 2=Zlc (some (2,true,1)) a:=Zg Z0z a
theorem Zcz:Zka Tryz.prog 99=some (true,3):=by kernel_rfl
@[go_sem] theorem Tryz.load99 (H:Heap) (a:V):Zqa Tryz.prog H 99 a=Ztb (some (true,3)) (Zof H a) a:=Zla Zcz H a
@[go_sem] theorem Tryz.bld99 (l:List (Nat × V)):Z8a Tryz.prog 99 l=(Zkb (Zwh [(0,1),(1,1),(2,1)]) [.str [],.int .i64 0,.int .i64 0] l).map .agg:=Zva (P:=Tryz.prog) (t:=99) (tbl:=[(0,1),(1,1),(2,1)]) (z:=[.str [],.int .i64 0,.int .i64 0]) (by kernel_rfl) (by kernel_rfl) l
theorem Zzz:Zma Tryz.prog 99 0=some (0,false,1):=by kernel_rfl
@[go_sem] theorem Tryz.fa99_0 (a:V):Zj Tryz.prog 99 a 0=Zlc (some (0,false,1)) a:=Zg Zzz a
theorem Zyz:Zma Tryz.prog 99 1=some (1,false,1):=by kernel_rfl
@[go_sem] theorem Tryz.fa99_1 (a:V):Zj Tryz.prog 99 a 1=Zlc (some (1,false,1)) a:=Zg Zyz a
theorem Zxz:Zma Tryz.prog 99 2=some (2,false,1):=by kernel_rfl
@[go_sem] theorem Tryz.fa99_2 (a:V):Zj Tryz.prog 99 a 2=Zlc (some (2,false,1)) a:=Zg Zxz a
theorem Zev:Zka Tryz.prog 100=some (true,69):=by kernel_rfl
@[go_sem] theorem Z5fa (H:Heap) (a:V):Zqa Tryz.prog H 100 a=Ztb (some (true,69)) (Zof H a) a:=Zla Zev H a
@[go_sem] theorem Tryz.sz100:Z6b Tryz.prog 100=some 69:=by kernel_rfl
@[go_sem] theorem Zofa:Zzd Tryz.prog 100=some (.str [] :: .int .i64 0 :: .int .i64 0 :: .str [] :: .int .i64 0 :: .int .i64 0 :: .str [] :: .int .i64 0 :: .int .i64 0 :: .str [] :: .int .i64 0 :: .int .i64 0 :: .str [] :: .int .i64 0 :: .int .i64 0 :: .str [] :: .int .i64 0 :: .int .i64 0 :: .str [] :: .int .i64 0 :: .int .i64 0 :: .str [] :: .int .i64 0 :: .int .i64 0 :: .str [] :: .int .i64 0 :: .int .i64 0 :: .str [] :: .int .i64 0 :: .int .i64 0 :: .str [] :: .int .i64 0 :: .int .i64 0 :: .str [] :: .int .i64 0 :: .int .i64 0 :: .str [] :: .int .i64 0 :: .int .i64 0 :: .str [] :: .int .i64 0 :: .int .i64 0 :: .str [] :: .int .i64 0 :: .int .i64 0 :: .str [] :: .int .i64 0 :: .int .i64 0 :: .str [] :: .int .i64 0 :: .int .i64 0 :: .str [] :: .int .i64 0 :: .int .i64 0 :: .str [] :: .int .i64 0 :: .int .i64 0 :: .str [] :: .int .i64 0 :: .int .i64 0 :: .str [] :: .int .i64 0 :: .int .i64 0 :: .str [] :: .int .i64 0 :: .int .i64 0 :: .str [] :: .int .i64 0 :: .int .i64 0::[]):=by kernel_rfl
@[go_sem] theorem Tryz.ia100 (a:V) (ik:IntKind) (n:Int):Zja Tryz.prog 100 a (.int ik n)=idxA 23 3 true a ik n:=Zti (P:=Tryz.prog) (e:=99) (by kernel_rfl) (by kernel_rfl) (by kernel_rfl) (by decide) a ik n
@[go_sem] theorem Tryz.bla100 (l:List (Nat × V)):Z8a Tryz.prog 100 l=(Zkb (mulP 3) (.str [] :: .int .i64 0 :: .int .i64 0 :: .str [] :: .int .i64 0 :: .int .i64 0 :: .str [] :: .int .i64 0 :: .int .i64 0 :: .str [] :: .int .i64 0 :: .int .i64 0 :: .str [] :: .int .i64 0 :: .int .i64 0 :: .str [] :: .int .i64 0 :: .int .i64 0 :: .str [] :: .int .i64 0 :: .int .i64 0 :: .str [] :: .int .i64 0 :: .int .i64 0 :: .str [] :: .int .i64 0 :: .int .i64 0 :: .str [] :: .int .i64 0 :: .int .i64 0 :: .str [] :: .int .i64 0 :: .int .i64 0 :: .str [] :: .int .i64 0 :: .int .i64 0 :: .str [] :: .int .i64 0 :: .int .i64 0 :: .str [] :: .int .i64 0 :: .int .i64 0 :: .str [] :: .int .i64 0 :: .int .i64 0 :: .str [] :: .int .i64 0 :: .int .i64 0 :: .str [] :: .int .i64 0 :: .int .i64 0 :: .str [] :: .int .i64 0 :: .int .i64 0 :: .str [] :: .int .i64 0 :: .int .i64 0 :: .str [] :: .int .i64 0 :: .int .i64 0 :: .str [] :: .int .i64 0 :: .int .i64 0 :: .str [] :: .int .i64 0 :: .int .i64 0 :: .str [] :: .int .i64 0 :: .int .i64 0::[]) l).map .agg:=Zqu (P:=Tryz.prog) (N:=23) (e:=99) (by kernel_rfl) (by kernel_rfl) (by kernel_rfl) l
theorem Z9i:Zrd Tryz.prog 102=some 2:=by kernel_rfl
@[go_sem] theorem Tryz.idx102 (a i:V):Zja Tryz.prog 102 a i=Zor (some 2) a i:=Z4a Z9i a i
@[go_sem] theorem Tryz.len102 (a:V):Zyn Tryz.prog 102 a=Zan true a:=Zpb Z9i a
@[go_sem] theorem Tryz.sl102 (a:V) (lo hi:Option V):Zqg Tryz.prog 102 a lo hi none=slK 2 a lo hi:=Zol Z9i a lo hi
@[go_sem] theorem Tryz.bs102 (n:Nat) (l:List (Nat × V)):Z4c Tryz.prog 102 n l=bsK 2 [.int .i64 0,.int .i64 0] n l:=Zgc (P:=Tryz.prog) (t:=102) (e:=106) (m:=2) (z:=[.int .i64 0,.int .i64 0]) (by kernel_rfl) (by kernel_rfl) (by kernel_rfl) rfl n l
theorem Z52:Z8j Tryz.prog [102,102]=some (2,16):=by kernel_rfl
@[go_sem] theorem Zsha (E:Ent) (ops:Array Oper) (Q:AS→Prop) (rest:List Oper) (e:Nat) (τ : Nat→V) (H:Heap) (a b:V):Z6y Tryz.prog E ops Q rest e τ H [102,102] a b=Zpr Tryz.prog E ops Q rest e τ H 2 16 a (Z9a H 2 b) (obS H a):=Zzg ops Z52 e a b
theorem Zdv:Zka Tryz.prog 104=some (false,1):=by kernel_rfl
@[go_sem] theorem Z4fa (H:Heap) (a:V):Zqa Tryz.prog H 104 a=Ztb (some (false,1)) (Zof H a) a:=Zla Zdv H a
@[go_sem] theorem Tryz.sz104:Z6b Tryz.prog 104=some 1:=by kernel_rfl
theorem Z8i:Zrd Tryz.prog 104=some 1:=by kernel_rfl
@[go_sem] theorem Tryz.idx104 (a i:V):Zja Tryz.prog 104 a i=Zor (some 1) a i:=Z4a Z8i a i
@[go_sem] theorem Tryz.len104 (a:V):Zyn Tryz.prog 104 a=Zan true a:=Zpb Z8i a
@[go_sem] theorem Tryz.sl104 (a:V) (lo hi:Option V):Zqg Tryz.prog 104 a lo hi none=slK 1 a lo hi:=Zol Z8i a lo hi
@[go_sem] theorem Tryz.bs104 (n:Nat) (l:List (Nat × V)):Z4c Tryz.prog 104 n l=bsK 1 [.int .i64 0] n l:=Zgc (P:=Tryz.prog) (t:=104) (e:=3) (m:=1) (z:=[.int .i64 0]) (by kernel_rfl) (by kernel_rfl) (by kernel_rfl) rfl n l
@[go_sem] theorem Tryz.ms104 (a b:V):Z1p Tryz.prog 104 a b=msK 1 8 [.int .i64 0] a b:=Zf9 (P:=Tryz.prog) (t:=104) (e:=3) (E:=1) (bytes:=8) (z:=[.int .i64 0]) (by kernel_rfl) (by kernel_rfl) (by kernel_rfl) (by kernel_rfl) rfl a b
theorem Z42:Z8j Tryz.prog [104,104]=some (1,8):=by kernel_rfl
@[go_sem] theorem Zrha (E:Ent) (ops:Array Oper) (Q:AS→Prop) (rest:List Oper) (e:Nat) (τ : Nat→V) (H:Heap) (a b:V):Z6y Tryz.prog E ops Q rest e τ H [104,104] a b=Zpr Tryz.prog E ops Q rest e τ H 1 8 a (Z9a H 1 b) (obS H a):=Zzg ops Z42 e a b
theorem Zcv:Zka Tryz.prog 106=some (true,2):=by kernel_rfl
@[go_sem] theorem Z3fa (H:Heap) (a:V):Zqa Tryz.prog H 106 a=Ztb (some (true,2)) (Zof H a) a:=Zla Zcv H a
@[go_sem] theorem Tryz.sz106:Z6b Tryz.prog 106=some 2:=by kernel_rfl
@[go_sem] theorem Znfa:Zzd Tryz.prog 106=some [.int .i64 0,.int .i64 0]:=by kernel_rfl
@[go_sem] theorem Tryz.bld106 (l:List (Nat × V)):Z8a Tryz.prog 106 l=(Zkb (Zwh [(0,1),(1,1)]) [.int .i64 0,.int .i64 0] l).map .agg:=Zva (P:=Tryz.prog) (t:=106) (tbl:=[(0,1),(1,1)]) (z:=[.int .i64 0,.int .i64 0]) (by kernel_rfl) (by kernel_rfl) l
theorem Zsw:Zma Tryz.prog 106 0=some (0,false,1):=by kernel_rfl
@[go_sem] theorem Zlha (a:V):Zj Tryz.prog 106 a 0=Zlc (some (0,false,1)) a:=Zg Zsw a
theorem Zrw:Zma Tryz.prog 106 1=some (1,false,1):=by kernel_rfl
@[go_sem] theorem Zkha (a:V):Zj Tryz.prog 106 a 1=Zlc (some (1,false,1)) a:=Zg Zrw a
theorem Zbv:Zka Tryz.prog 109=some (true,6):=by kernel_rfl
@[go_sem] theorem Z2fa (H:Heap) (a:V):Zqa Tryz.prog H 109 a=Ztb (some (true,6)) (Zof H a) a:=Zla Zbv H a
@[go_sem] theorem Tryz.sz109:Z6b Tryz.prog 109=some 6:=by kernel_rfl
@[go_sem] theorem Zmfa:Zzd Tryz.prog 109=some [.int .u8 0,.int .i64 0,.str [],.int .i64 0,.int .i64 0,.int .i64 0]:=by kernel_rfl
@[go_sem] theorem Tryz.bld109 (l:List (Nat × V)):Z8a Tryz.prog 109 l=(Zkb (Zwh [(0,1),(1,1),(2,1),(3,1),(4,1),(5,1)]) [.int .u8 0,.int .i64 0,.str [],.int .i64 0,.int .i64 0,.int .i64 0] l).map .agg:=Zva (P:=Tryz.prog) (t:=109) (tbl:=[(0,1),(1,1),(2,1),(3,1),(4,1),(5,1)]) (z:=[.int .u8 0,.int .i64 0,.str [],.int .i64 0,.int .i64 0,.int .i64 0]) (by kernel_rfl) (by kernel_rfl) l
theorem Zqw:Zma Tryz.prog 109 0=some (0,false,1):=by kernel_rfl
@[go_sem] theorem Zjha (a:V):Zj Tryz.prog 109 a 0=Zlc (some (0,false,1)) a:=Zg Zqw a
theorem Zpw:Zma Tryz.prog 109 1=some (1,false,1):=by kernel_rfl
@[go_sem] theorem Ziha (a:V):Zj Tryz.prog 109 a 1=Zlc (some (1,false,1)) a:=Zg Zpw a
theorem Zow:Zma Tryz.prog 109 2=some (2,false,1):=by kernel_rfl
@[go_sem] theorem Zhha (a:V):Zj Tryz.prog 109 a 2=Zlc (some (2,false,1)) a:=Zg Zow a
theorem Znw:Zma Tryz.prog 109 3=some (3,false,1):=by kernel_rfl
@[go_sem] theorem Zgha (a:V):Zj Tryz.prog 109 a 3=Zlc (some (3,false,1)) a:=Zg Znw a
theorem Zmw:Zma Tryz.prog 109 4=some (4,false,1):=by kernel_rfl
@[go_sem] theorem Zfha (a:V):Zj Tryz.prog 109 a 4=Zlc (some (4,false,1)) a:=Zg Zmw a
theorem Zlw:Zma Tryz.prog 109 5=some (5,false,1):=by kernel_rfl
@[go_sem] theorem Zeha (a:V):Zj Tryz.prog 109 a 5=Zlc (some (5,false,1)) a:=Zg Zlw a
theorem Zav:Zka Tryz.prog 112=some (true,2):=by kernel_rfl
@[go_sem] theorem Z1fa (H:Heap) (a:V):Zqa Tryz.prog H 112 a=Ztb (some (true,2)) (Zof H a) a:=Zla Zav H a
@[go_sem] theorem Tryz.bld112 (l:List (Nat × V)):Z8a Tryz.prog 112 l=(Zkb (Zwh [(0,1),(1,1)]) [.nils,.nils] l).map .agg:=Zva (P:=Tryz.prog) (t:=112) (tbl:=[(0,1),(1,1)]) (z:=[.nils,.nils]) (by kernel_rfl) (by kernel_rfl) l
theorem Zkw:Zma Tryz.prog 112 0=some (0,false,1):=by kernel_rfl
@[go_sem] theorem Zdha (a:V):Zj Tryz.prog 112 a 0=Zlc (some (0,false,1)) a:=Zg Zkw a
theorem Zjw:Zma Tryz.prog 112 1=some (1,false,1):=by kernel_rfl
@[go_sem] theorem Zcha (a:V):Zj Tryz.prog 112 a 1=Zlc (some (1,false,1)) a:=Zg Zjw a
theorem Z9u:Zka Tryz.prog 116=some (false,1):=by kernel_rfl
@[go_sem] theorem Z0fa (H:Heap) (a:V):Zqa Tryz.prog H 116 a=Ztb (some (false,1)) (Zof H a) a:=Zla Z9u H a
theorem Z7i:Zrd Tryz.prog 116=some 3:=by kernel_rfl
@[go_sem] theorem Tryz.idx116 (a i:V):Zja Tryz.prog 116 a i=Zor (some 3) a i:=Z4a Z7i a i
@[go_sem] theorem Tryz.len116 (a:V):Zyn Tryz.prog 116 a=Zan true a:=Zpb Z7i a
@[go_sem] theorem Tryz.sl116 (a:V) (lo hi:Option V):Zqg Tryz.prog 116 a lo hi none=slK 3 a lo hi:=Zol Z7i a lo hi
@[go_sem] theorem Tryz.bs116 (n:Nat) (l:List (Nat × V)):Z4c Tryz.prog 116 n l=bsK 3 [.int .u8 0,.str [],.int .i64 0] n l:=Zgc (P:=Tryz.prog) (t:=116) (e:=121) (m:=3) (z:=[.int .u8 0,.str [],.int .i64 0]) (by kernel_rfl) (by kernel_rfl) (by kernel_rfl) rfl n l
theorem Z32:Z8j Tryz.prog [116,116]=some (3,32):=by kernel_rfl
@[go_sem] theorem Zqha (E:Ent) (ops:Array Oper) (Q:AS→Prop) (rest:List Oper) (e:Nat) (τ : Nat→V) (H:Heap) (a b:V):Z6y Tryz.prog E ops Q rest e τ H [116,116] a b=Zpr Tryz.prog E ops Q rest e τ H 3 32 a (Z9a H 3 b) (obS H a):=Zzg ops Z32 e a b
theorem Z8u:Zka Tryz.prog 121=some (true,3):=by kernel_rfl
@[go_sem] theorem Zzfa (H:Heap) (a:V):Zqa Tryz.prog H 121 a=Ztb (some (true,3)) (Zof H a) a:=Zla Z8u H a
@[go_sem] theorem Tryz.sz121:Z6b Tryz.prog 121=some 3:=by kernel_rfl
@[go_sem] theorem Zlfa:Zzd Tryz.prog 121=some [.int .u8 0,.str [],.int .i64 0]:=by kernel_rfl
@[go_sem] theorem Tryz.bld121 (l:List (Nat × V)):Z8a Tryz.prog 121 l=(Zkb (Zwh [(0,1),(1,1),(2,1)]) [.int .u8 0,.str [],.int .i64 0] l).map .agg:=Zva (P:=Tryz.prog) (t:=121) (tbl:=[(0,1),(1,1),(2,1)]) (z:=[.int .u8 0,.str [],.int .i64 0]) (by kernel_rfl) (by kernel_rfl) l
theorem Ziw:Zma Tryz.prog 121 0=some (0,false,1):=by kernel_rfl
@[go_sem] theorem Zbha (a:V):Zj Tryz.prog 121 a 0=Zlc (some (0,false,1)) a:=Zg Ziw a
theorem Zhw:Zma Tryz.prog 121 1=some (1,false,1):=by kernel_rfl
@[go_sem] theorem Zaha (a:V):Zj Tryz.prog 121 a 1=Zlc (some (1,false,1)) a:=Zg Zhw a
theorem Zgw:Zma Tryz.prog 121 2=some (2,false,1):=by kernel_rfl
@[go_sem] theorem Z9ga (a:V):Zj Tryz.prog 121 a 2=Zlc (some (2,false,1)) a:=Zg Zgw a
theorem Z7u:Zka Tryz.prog 122=some (false,1):=by kernel_rfl
@[go_sem] theorem Zyfa (H:Heap) (a:V):Zqa Tryz.prog H 122 a=Ztb (some (false,1)) (Zof H a) a:=Zla Z7u H a
theorem Z6n:Zrd Tryz.prog 122=some 1:=by kernel_rfl
@[go_sem] theorem Tryz.idx122 (a i:V):Zja Tryz.prog 122 a i=Zor (some 1) a i:=Z4a Z6n a i
@[go_sem] theorem Tryz.len122 (a:V):Zyn Tryz.prog 122 a=Zan true a:=Zpb Z6n a
@[go_sem] theorem Tryz.bs122 (n:Nat) (l:List (Nat × V)):Z4c Tryz.prog 122 n l=bsK 1 [.int .u8 0] n l:=Zgc (P:=Tryz.prog) (t:=122) (e:=5) (m:=1) (z:=[.int .u8 0]) (by kernel_rfl) (by kernel_rfl) (by kernel_rfl) rfl n l
theorem Z22:Z8j Tryz.prog [122,122]=some (1,1):=by kernel_rfl
@[go_sem] theorem Zpha (E:Ent) (ops:Array Oper) (Q:AS→Prop) (rest:List Oper) (e:Nat) (τ : Nat→V) (H:Heap) (a b:V):Z6y Tryz.prog E ops Q rest e τ H [122,122] a b=Zpr Tryz.prog E ops Q rest e τ H 1 1 a (Z9a H 1 b) (obS H a):=Zzg ops Z22 e a b
theorem Z6u:Zka Tryz.prog 128=some (true,3):=by kernel_rfl
@[go_sem] theorem Zxfa (H:Heap) (a:V):Zqa Tryz.prog H 128 a=Ztb (some (true,3)) (Zof H a) a:=Zla Z6u H a
@[go_sem] theorem Tryz.sz128:Z6b Tryz.prog 128=some 3:=by kernel_rfl
@[go_sem] theorem Zkfa:Zzd Tryz.prog 128=some [.int .u8 0,.str [],.nils]:=by kernel_rfl
@[go_sem] theorem Tryz.bld128 (l:List (Nat × V)):Z8a Tryz.prog 128 l=(Zkb (Zwh [(0,1),(1,1),(2,1)]) [.int .u8 0,.str [],.nils] l).map .agg:=Zva (P:=Tryz.prog) (t:=128) (tbl:=[(0,1),(1,1),(2,1)]) (z:=[.int .u8 0,.str [],.nils]) (by kernel_rfl) (by kernel_rfl) l
theorem Zfw:Zma Tryz.prog 128 0=some (0,false,1):=by kernel_rfl
@[go_sem] theorem Z8ga (a:V):Zj Tryz.prog 128 a 0=Zlc (some (0,false,1)) a:=Zg Zfw a
theorem Zew:Zma Tryz.prog 128 1=some (1,false,1):=by kernel_rfl
@[go_sem] theorem Z7ga (a:V):Zj Tryz.prog 128 a 1=Zlc (some (1,false,1)) a:=Zg Zew a
theorem Zdw:Zma Tryz.prog 128 2=some (2,false,1):=by kernel_rfl
@[go_sem] theorem Z6ga (a:V):Zj Tryz.prog 128 a 2=Zlc (some (2,false,1)) a:=Zg Zdw a
@[go_sem] theorem Tryz.bld129 (l:List (Nat × V)):Z8a Tryz.prog 129 l=(Zkb (Zwh [(0,1),(1,1)]) [.str [],.int .i64 0] l).map .agg:=Zva (P:=Tryz.prog) (t:=129) (tbl:=[(0,1),(1,1)]) (z:=[.str [],.int .i64 0]) (by kernel_rfl) (by kernel_rfl) l
theorem Zcw:Zma Tryz.prog 129 0=some (0,false,1):=by kernel_rfl
@[go_sem] theorem Z5ga (a:V):Zj Tryz.prog 129 a 0=Zlc (some (0,false,1)) a:=Zg Zcw a
theorem Zbw:Zma Tryz.prog 129 1=some (1,false,1):=by kernel_rfl
@[go_sem] theorem Z4ga (a:V):Zj Tryz.prog 129 a 1=Zlc (some (1,false,1)) a:=Zg Zbw a
@[go_sem] theorem Tryz.bld133 (l:List (Nat × V)):Z8a Tryz.prog 133 l=(Zkb (Zwh [(0,3),(3,1)]) [.nils,.nils,.int .i64 0,.int .i64 0] l).map .agg:=Zva (P:=Tryz.prog) (t:=133) (tbl:=[(0,3),(3,1)]) (z:=[.nils,.nils,.int .i64 0,.int .i64 0]) (by kernel_rfl) (by kernel_rfl) l
theorem Zaw:Zma Tryz.prog 133 0=some (0,true,3):=by kernel_rfl
@[go_sem] theorem Z3ga (a:V):Zj Tryz.prog 133 a 0=Zlc (some (0,true,3)) a:=Zg Zaw a
theorem Z9v:Zma Tryz.prog 133 1=some (3,false,1):=by kernel_rfl
@[go_sem] theorem Z2ga (a:V):Zj Tryz.prog 133 a 1=Zlc (some (3,false,1)) a:=Zg Z9v a
@[go_sem] theorem Tryz.bld146 (l:List (Nat × V)):Z8a Tryz.prog 146 l=(Zkb (Zwh [(0,1),(1,1),(2,1)]) [.nils,.int .i64 0,.int .i64 0] l).map .agg:=Zva (P:=Tryz.prog) (t:=146) (tbl:=[(0,1),(1,1),(2,1)]) (z:=[.nils,.int .i64 0,.int .i64 0]) (by kernel_rfl) (by kernel_rfl) l
theorem Z8v:Zma Tryz.prog 146 0=some (0,false,1):=by kernel_rfl
@[go_sem] theorem Z1ga (a:V):Zj Tryz.prog 146 a 0=Zlc (some (0,false,1)) a:=Zg Z8v a
theorem Z7v:Zma Tryz.prog 146 1=some (1,false,1):=by kernel_rfl
@[go_sem] theorem Z0ga (a:V):Zj Tryz.prog 146 a 1=Zlc (some (1,false,1)) a:=Zg Z7v a
theorem Z6v:Zma Tryz.prog 146 2=some (2,false,1):=by kernel_rfl
@[go_sem] theorem Zzga (a:V):Zj Tryz.prog 146 a 2=Zlc (some (2,false,1)) a:=Zg Z6v a
@[go_sem] theorem Tryz.bld148 (l:List (Nat × V)):Z8a Tryz.prog 148 l=(Zkb (Zwh [(0,3),(3,1)]) [.nils,.int .i64 0,.int .i64 0,.nils] l).map .agg:=Zva (P:=Tryz.prog) (t:=148) (tbl:=[(0,3),(3,1)]) (z:=[.nils,.int .i64 0,.int .i64 0,.nils]) (by kernel_rfl) (by kernel_rfl) l
theorem Z5v:Zma Tryz.prog 148 0=some (0,true,3):=by kernel_rfl
@[go_sem] theorem Zyga (a:V):Zj Tryz.prog 148 a 0=Zlc (some (0,true,3)) a:=Zg Z5v a
theorem Z4v:Zma Tryz.prog 148 1=some (3,false,1):=by kernel_rfl
@[go_sem] theorem Zxga (a:V):Zj Tryz.prog 148 a 1=Zlc (some (3,false,1)) a:=Zg Z4v a
@[go_sem] theorem Tryz.sz152:Z6b Tryz.prog 152=some 1:=by kernel_rfl
@[go_sem] theorem Zjfa:Zzd Tryz.prog 152=some [.int .i64 0]:=by kernel_rfl
@[go_sem] theorem Tryz.bld152 (l:List (Nat × V)):Z8a Tryz.prog 152 l=(Zkb (Zwh [(0,1)]) [.int .i64 0] l).map .agg:=Zva (P:=Tryz.prog) (t:=152) (tbl:=[(0,1)]) (z:=[.int .i64 0]) (by kernel_rfl) (by kernel_rfl) l
theorem Z3v:Zma Tryz.prog 152 0=some (0,false,1):=by kernel_rfl
@[go_sem] theorem Zwga (a:V):Zj Tryz.prog 152 a 0=Zlc (some (0,false,1)) a:=Zg Z3v a
theorem Z5u:Zka Tryz.prog 155=some (false,1):=by kernel_rfl
@[go_sem] theorem Zwfa (H:Heap) (a:V):Zqa Tryz.prog H 155 a=Ztb (some (false,1)) (Zof H a) a:=Zla Z5u H a
@[go_sem] theorem Tryz.bld157 (l:List (Nat × V)):Z8a Tryz.prog 157 l=(Zkb (Zwh [(0,1),(1,1)]) [.nils,.nilm] l).map .agg:=Zva (P:=Tryz.prog) (t:=157) (tbl:=[(0,1),(1,1)]) (z:=[.nils,.nilm]) (by kernel_rfl) (by kernel_rfl) l
theorem Z2v:Zma Tryz.prog 157 0=some (0,false,1):=by kernel_rfl
@[go_sem] theorem Zvga (a:V):Zj Tryz.prog 157 a 0=Zlc (some (0,false,1)) a:=Zg Z2v a
theorem Z1v:Zma Tryz.prog 157 1=some (1,false,1):=by kernel_rfl
@[go_sem] theorem Zuga (a:V):Zj Tryz.prog 157 a 1=Zlc (some (1,false,1)) a:=Zg Z1v a
theorem Z4u:Zka Tryz.prog 169=some (false,1):=by kernel_rfl
@[go_sem] theorem Zvfa (H:Heap) (a:V):Zqa Tryz.prog H 169 a=Ztb (some (false,1)) (Zof H a) a:=Zla Z4u H a
@[go_sem] theorem Tryz.bld171 (l:List (Nat × V)):Z8a Tryz.prog 171 l=(Zkb (Zwh [(0,1),(1,1),(2,1),(3,1),(4,1)]) [.nils,.int .i64 0,.nils,.int .i64 0,.nilf] l).map .agg:=Zva (P:=Tryz.prog) (t:=171) (tbl:=[(0,1),(1,1),(2,1),(3,1),(4,1)]) (z:=[.nils,.int .i64 0,.nils,.int .i64 0,.nilf]) (by kernel_rfl) (by kernel_rfl) l
theorem Z0v:Zma Tryz.prog 171 0=some (0,false,1):=by kernel_rfl
@[go_sem] theorem Ztga (a:V):Zj Tryz.prog 171 a 0=Zlc (some (0,false,1)) a:=Zg Z0v a
theorem Zzv:Zma Tryz.prog 171 1=some (1,false,1):=by kernel_rfl
@[go_sem] theorem Zsga (a:V):Zj Tryz.prog 171 a 1=Zlc (some (1,false,1)) a:=Zg Zzv a
theorem Zyv:Zma Tryz.prog 171 2=some (2,false,1):=by kernel_rfl
@[go_sem] theorem Zrga (a:V):Zj Tryz.prog 171 a 2=Zlc (some (2,false,1)) a:=Zg Zyv a
theorem Zxv:Zma Tryz.prog 171 3=some (3,false,1):=by kernel_rfl
@[go_sem] theorem Zqga (a:V):Zj Tryz.prog 171 a 3=Zlc (some (3,false,1)) a:=Zg Zxv a
theorem Zwv:Zma Tryz.prog 171 4=some (4,false,1):=by kernel_rfl
@[go_sem] theorem Zpga (a:V):Zj Tryz.prog 171 a 4=Zlc (some (4,false,1)) a:=Zg Zwv a
theorem Z3u:Zka Tryz.prog 173=some (true,3):=by kernel_rfl
@[go_sem] theorem Zufa (H:Heap) (a:V):Zqa Tryz.prog H 173 a=Ztb (some (true,3)) (Zof H a) a:=Zla Z3u H a
@[go_sem] theorem Tryz.sz173:Z6b Tryz.prog 173=some 3:=by kernel_rfl
@[go_sem] theorem Zifa:Zzd Tryz.prog 173=some [.int .u8 0,.int .u8 0,.int .u8 0]:=by kernel_rfl
@[go_sem] theorem Tryz.bld173 (l:List (Nat × V)):Z8a Tryz.prog 173 l=(Zkb (Zwh [(0,1),(1,1),(2,1)]) [.int .u8 0,.int .u8 0,.int .u8 0] l).map .agg:=Zva (P:=Tryz.prog) (t:=173) (tbl:=[(0,1),(1,1),(2,1)]) (z:=[.int .u8 0,.int .u8 0,.int .u8 0]) (by kernel_rfl) (by kernel_rfl) l
theorem Zvv:Zma Tryz.prog 173 0=some (0,false,1):=by kernel_rfl
@[go_sem] theorem Zoga (a:V):Zj Tryz.prog 173 a 0=Zlc (some (0,false,1)) a:=Zg Zvv a
theorem Zuv:Zma Tryz.prog 173 1=some (1,false,1):=by kernel_rfl
@[go_sem] theorem Znga (a:V):Zj Tryz.prog 173 a 1=Zlc (some (1,false,1)) a:=Zg Zuv a
theorem Ztv:Zma Tryz.prog 173 2=some (2,false,1):=by kernel_rfl
@[go_sem] theorem Zmga (a:V):Zj Tryz.prog 173 a 2=Zlc (some (2,false,1)) a:=Zg Ztv a
theorem Z2u:Zka Tryz.prog 175=some (true,4):=by kernel_rfl
@[go_sem] theorem Ztfa (H:Heap) (a:V):Zqa Tryz.prog H 175 a=Ztb (some (true,4)) (Zof H a) a:=Zla Z2u H a
@[go_sem] theorem Tryz.sz175:Z6b Tryz.prog 175=some 4:=by kernel_rfl
@[go_sem] theorem Zhfa:Zzd Tryz.prog 175=some [.int .u8 0,.int .u8 0,.int .u8 0,.int .u8 0]:=by kernel_rfl
@[go_sem] theorem Tryz.bld175 (l:List (Nat × V)):Z8a Tryz.prog 175 l=(Zkb (Zwh [(0,3),(3,1)]) [.int .u8 0,.int .u8 0,.int .u8 0,.int .u8 0] l).map .agg:=Zva (P:=Tryz.prog) (t:=175) (tbl:=[(0,3),(3,1)]) (z:=[.int .u8 0,.int .u8 0,.int .u8 0,.int .u8 0]) (by kernel_rfl) (by kernel_rfl) l
theorem Zsv:Zma Tryz.prog 175 0=some (0,true,3):=by kernel_rfl
@[go_sem] theorem Zlga (a:V):Zj Tryz.prog 175 a 0=Zlc (some (0,true,3)) a:=Zg Zsv a
theorem Zrv:Zma Tryz.prog 175 1=some (3,false,1):=by kernel_rfl
@[go_sem] theorem Zkga (a:V):Zj Tryz.prog 175 a 1=Zlc (some (3,false,1)) a:=Zg Zrv a
theorem Z1u:Zka Tryz.prog 176=some (true,92):=by kernel_rfl
@[go_sem] theorem Zsfa (H:Heap) (a:V):Zqa Tryz.prog H 176 a=Ztb (some (true,92)) (Zof H a) a:=Zla Z1u H a
@[go_sem] theorem Tryz.sz176:Z6b Tryz.prog 176=some 92:=by kernel_rfl
@[go_sem] theorem Zgfa:Zzd Tryz.prog 176=some (.int .u8 0 :: .int .u8 0 :: .int .u8 0 :: .int .u8 0 :: .int .u8 0 :: .int .u8 0 :: .int .u8 0 :: .int .u8 0 :: .int .u8 0 :: .int .u8 0 :: .int .u8 0 :: .int .u8 0 :: .int .u8 0 :: .int .u8 0 :: .int .u8 0 :: .int .u8 0 :: .int .u8 0 :: .int .u8 0 :: .int .u8 0 :: .int .u8 0 :: .int .u8 0 :: .int .u8 0 :: .int .u8 0 :: .int .u8 0 :: .int .u8 0 :: .int .u8 0 :: .int .u8 0 :: .int .u8 0 :: .int .u8 0 :: .int .u8 0 :: .int .u8 0 :: .int .u8 0 :: .int .u8 0 :: .int .u8 0 :: .int .u8 0 :: .int .u8 0 :: .int .u8 0 :: .int .u8 0 :: .int .u8 0 :: .int .u8 0 :: .int .u8 0 :: .int .u8 0 :: .int .u8 0 :: .int .u8 0 :: .int .u8 0 :: .int .u8 0 :: .int .u8 0 :: .int .u8 0 :: .int .u8 0 :: .int .u8 0 :: .int .u8 0 :: .int .u8 0 :: .int .u8 0 :: .int .u8 0 :: .int .u8 0 :: .int .u8 0 :: .int .u8 0 :: .int .u8 0 :: .int .u8 0 :: .int .u8 0 :: .int .u8 0 :: .int .u8 0 :: .int .u8 0 :: .int .u8 0 :: .int .u8 0 :: .int .u8 0 :: .int .u8 0 :: .int .u8 0 :: .int .u8 0 :: .int .u8 0 :: .int .u8 0 :: .int .u8 0 :: .int .u8 0 :: .int .u8 0 :: .int .u8 0 :: .int .u8 0 :: .int .u8 0 :: .int .u8 0 :: .int .u8 0 :: .int .u8 0 :: .int .u8 0 :: .int .u8 0 :: .int .u8 0 :: .int .u8 0 :: .int .u8 0 :: .int .u8 0 :: .int .u8 0 :: .int .u8 0 :: .int .u8 0 :: .int .u8 0 :: .int .u8 0 :: .int .u8 0::[]):=by kernel_rfl
@[go_sem] theorem Tryz.ia176 (a:V) (ik:IntKind) (n:Int):Zja Tryz.prog 176 a (.int ik n)=idxA 23 4 true a ik n:=Zti (P:=Tryz.prog) (e:=175) (by kernel_rfl) (by kernel_rfl) (by kernel_rfl) (by decide) a ik n
@[go_sem] theorem Tryz.bla176 (l:List (Nat × V)):Z8a Tryz.prog 176 l=(Zkb (mulP 4) (.int .u8 0 :: .int .u8 0 :: .int .u8 0 :: .int .u8 0 :: .int .u8 0 :: .int .u8 0 :: .int .u8 0 :: .int .u8 0 :: .int .u8 0 :: .int .u8 0 :: .int .u8 0 :: .int .u8 0 :: .int .u8 0 :: .int .u8 0 :: .int .u8 0 :: .int .u8 0 :: .int .u8 0 :: .int .u8 0 :: .int .u8 0 :: .int .u8 0 :: .int .u8 0 :: .int .u8 0 :: .int .u8 0 :: .int .u8 0 :: .int .u8 0 :: .int .u8 0 :: .int .u8 0 :: .int .u8 0 :: .int .u8 0 :: .int .u8 0 :: .int .u8 0 :: .int .u8 0 :: .int .u8 0 :: .int .u8 0 :: .int .u8 0 :: .int .u8 0 :: .int .u8 0 :: .int .u8 0 :: .int .u8 0 :: .int .u8 0 :: .int .u8 0 :: .int .u8 0 :: .int .u8 0 :: .int .u8 0 :: .int .u8 0 :: .int .u8 0 :: .int .u8 0 :: .int .u8 0 :: .int .u8 0 :: .int .u8 0 :: .int .u8 0 :: .int .u8 0 :: .int .u8 0 :: .int .u8 0 :: .int .u8 0 :: .int .u8 0 :: .int .u8 0 :: .int .u8 0 :: .int .u8 0 :: .int .u8 0 :: .int .u8 0 :: .int .u8 0 :: .int .u8 0 :: .int .u8 0 :: .int .u8 0 :: .int .u8 0 :: .int .u8 0 :: .int .u8 0 :: .int .u8 0 :: .int .u8 0 :: .int .u8 0 :: .int .u8 0 :: .int .u8 0 :: .int .u8 0 :: .int .u8 0 :: .int .u8 0 :: .int .u8 0 :: .int .u8 0 :: .int .u8 0 :: .int .u8 0 :: .int .u8 0 :: .int .u8 0 :: .int .u8 0 :: .int .u8 0 :: .int .u8 0 :: .int .u8 0 :: .int .u8 0 :: .int .u8 0 :: .int .u8 0 :: .int .u8 0 :: .int .u8 0 :: .int .u8 0::[]) l).map .agg:=Zqu (P:=Tryz.prog) (N:=23) (e:=175) (by kernel_rfl) (by kernel_rfl) (by kernel_rfl) l
theorem Z0u:Zka Tryz.prog 179=some (true,93):=by kernel_rfl
@[go_sem] theorem Zrfa (H:Heap) (a:V):Zqa Tryz.prog H 179 a=Ztb (some (true,93)) (Zof H a) a:=Zla Z0u H a
@[go_sem] theorem Tryz.sz179:Z6b Tryz.prog 179=some 93:=by kernel_rfl
theorem Zqv:Zma Tryz.prog 179 0=some (0,true,92):=by kernel_rfl
@[go_sem] theorem Zjga (a:V):Zj Tryz.prog 179 a 0=Zlc (some (0,true,92)) a:=Zg Zqv a
theorem Zpv:Zma Tryz.prog 179 1=some (92,false,1):=by kernel_rfl
@[go_sem] theorem Ziga (a:V):Zj Tryz.prog 179 a 1=Zlc (some (92,false,1)) a:=Zg Zpv a
@[go_sem] theorem Tryz.sz182:Z6b Tryz.prog 182=some 3:=by kernel_rfl
@[go_sem] theorem Zffa:Zzd Tryz.prog 182=some [.int .u8 0,.str [],.nils]:=by kernel_rfl
@[go_sem] theorem Tryz.bld182 (l:List (Nat × V)):Z8a Tryz.prog 182 l=(Zkb (Zwh [(0,3)]) [.int .u8 0,.str [],.nils] l).map .agg:=Zva (P:=Tryz.prog) (t:=182) (tbl:=[(0,3)]) (z:=[.int .u8 0,.str [],.nils]) (by kernel_rfl) (by kernel_rfl) l
theorem Zov:Zma Tryz.prog 182 0=some (0,true,3):=by kernel_rfl
@[go_sem] theorem Zhga (a:V):Zj Tryz.prog 182 a 0=Zlc (some (0,true,3)) a:=Zg Zov a
@[go_sem] theorem Tryz.sz187:Z6b Tryz.prog 187=some 3:=by kernel_rfl
@[go_sem] theorem Zefa:Zzd Tryz.prog 187=some [.int .u8 0,.str [],.nils]:=by kernel_rfl
@[go_sem] theorem Tryz.bld187 (l:List (Nat × V)):Z8a Tryz.prog 187 l=(Zkb (Zwh [(0,3)]) [.int .u8 0,.str [],.nils] l).map .agg:=Zva (P:=Tryz.prog) (t:=187) (tbl:=[(0,3)]) (z:=[.int .u8 0,.str [],.nils]) (by kernel_rfl) (by kernel_rfl) l
theorem Znv:Zma Tryz.prog 187 0=some (0,true,3):=by kernel_rfl
@[go_sem] theorem Zgga (a:V):Zj Tryz.prog 187 a 0=Zlc (some (0,true,3)) a:=Zg Znv a
theorem Zzu:Zka Tryz.prog 188=some (false,1):=by kernel_rfl
@[go_sem] theorem Zqfa (H:Heap) (a:V):Zqa Tryz.prog H 188 a=Ztb (some (false,1)) (Zof H a) a:=Zla Zzu H a
theorem Z6i:Zrd Tryz.prog 188=some 3:=by kernel_rfl
@[go_sem] theorem Tryz.idx188 (a i:V):Zja Tryz.prog 188 a i=Zor (some 3) a i:=Z4a Z6i a i
@[go_sem] theorem Tryz.len188 (a:V):Zyn Tryz.prog 188 a=Zan true a:=Zpb Z6i a
@[go_sem] theorem Tryz.sl188 (a:V) (lo hi:Option V):Zqg Tryz.prog 188 a lo hi none=slK 3 a lo hi:=Zol Z6i a lo hi
@[go_sem] theorem Tryz.bs188 (n:Nat) (l:List (Nat × V)):Z4c Tryz.prog 188 n l=bsK 3 [.int .u8 0,.str [],.int .i64 0] n l:=Zgc (P:=Tryz.prog) (t:=188) (e:=191) (m:=3) (z:=[.int .u8 0,.str [],.int .i64 0]) (by kernel_rfl) (by kernel_rfl) (by kernel_rfl) rfl n l
theorem Z12:Z8j Tryz.prog [188,188]=some (3,32):=by kernel_rfl
@[go_sem] theorem Zoha (E:Ent) (ops:Array Oper) (Q:AS→Prop) (rest:List Oper) (e:Nat) (τ : Nat→V) (H:Heap) (a b:V):Z6y Tryz.prog E ops Q rest e τ H [188,188] a b=Zpr Tryz.prog E ops Q rest e τ H 3 32 a (Z9a H 3 b) (obS H a):=Zzg ops Z12 e a b
@[go_sem] theorem Tryz.bld191 (l:List (Nat × V)):Z8a Tryz.prog 191 l=(Zkb (Zwh [(0,1),(1,1),(2,1)]) [.int .u8 0,.str [],.int .i64 0] l).map .agg:=Zva (P:=Tryz.prog) (t:=191) (tbl:=[(0,1),(1,1),(2,1)]) (z:=[.int .u8 0,.str [],.int .i64 0]) (by kernel_rfl) (by kernel_rfl) l
theorem Zmv:Zma Tryz.prog 191 0=some (0,false,1):=by kernel_rfl
@[go_sem] theorem Zfga (a:V):Zj Tryz.prog 191 a 0=Zlc (some (0,false,1)) a:=Zg Zmv a
theorem Zlv:Zma Tryz.prog 191 1=some (1,false,1):=by kernel_rfl
@[go_sem] theorem Zega (a:V):Zj Tryz.prog 191 a 1=Zlc (some (1,false,1)) a:=Zg Zlv a
theorem Zkv:Zma Tryz.prog 191 2=some (2,false,1):=by kernel_rfl
@[go_sem] theorem Zdga (a:V):Zj Tryz.prog 191 a 2=Zlc (some (2,false,1)) a:=Zg Zkv a
theorem Zyu:Zka Tryz.prog 204=some (true,2):=by kernel_rfl
@[go_sem] theorem Zpfa (H:Heap) (a:V):Zqa Tryz.prog H 204 a=Ztb (some (true,2)) (Zof H a) a:=Zla Zyu H a
@[go_sem] theorem Tryz.sz204:Z6b Tryz.prog 204=some 2:=by kernel_rfl
@[go_sem] theorem Zdfa:Zzd Tryz.prog 204=some [.nils,.bool false]:=by kernel_rfl
@[go_sem] theorem Tryz.bld204 (l:List (Nat × V)):Z8a Tryz.prog 204 l=(Zkb (Zwh [(0,1),(1,1)]) [.nils,.bool false] l).map .agg:=Zva (P:=Tryz.prog) (t:=204) (tbl:=[(0,1),(1,1)]) (z:=[.nils,.bool false]) (by kernel_rfl) (by kernel_rfl) l
theorem Zlm:Zma Tryz.prog 204 0=some (0,false,1):=by kernel_rfl
@[go_sem] theorem Zcga (a:V):Zj Tryz.prog 204 a 0=Zlc (some (0,false,1)) a:=Zg Zlm a
@[go_sem] theorem Z6fa (l:List V):Zfm Tryz.prog 204 (.agg l) 0=Z7j false 1 l 0:=Ziu Zlm l
theorem Zjv:Zma Tryz.prog 204 1=some (1,false,1):=by kernel_rfl
@[go_sem] theorem Zbga (a:V):Zj Tryz.prog 204 a 1=Zlc (some (1,false,1)) a:=Zg Zjv a
@[go_sem] theorem Tryz.ia212 (a:V) (ik:IntKind) (n:Int):Zja Tryz.prog 212 a (.int ik n)=idxA 14 1 false a ik n:=Zti (P:=Tryz.prog) (e:=9) (by kernel_rfl) (by kernel_rfl) (by kernel_rfl) (by decide) a ik n
theorem Z5n:Zrd Tryz.prog 249=some 3:=by kernel_rfl
@[go_sem] theorem Tryz.idx249 (a i:V):Zja Tryz.prog 249 a i=Zor (some 3) a i:=Z4a Z5n a i
@[go_sem] theorem Tryz.len249 (a:V):Zyn Tryz.prog 249 a=Zan true a:=Zpb Z5n a
@[go_sem] theorem Tryz.bld254 (l:List (Nat × V)):Z8a Tryz.prog 254 l=(Zkb (Zwh [(0,1),(1,1),(2,1),(3,1)]) [.nils,.int .i64 0,.nils,.int .i64 0] l).map .agg:=Zva (P:=Tryz.prog) (t:=254) (tbl:=[(0,1),(1,1),(2,1),(3,1)]) (z:=[.nils,.int .i64 0,.nils,.int .i64 0]) (by kernel_rfl) (by kernel_rfl) l
theorem Ziv:Zma Tryz.prog 254 0=some (0,false,1):=by kernel_rfl
@[go_sem] theorem Zaga (a:V):Zj Tryz.prog 254 a 0=Zlc (some (0,false,1)) a:=Zg Ziv a
theorem Zhv:Zma Tryz.prog 254 1=some (1,false,1):=by kernel_rfl
@[go_sem] theorem Z9fa (a:V):Zj Tryz.prog 254 a 1=Zlc (some (1,false,1)) a:=Zg Zhv a
theorem Zgv:Zma Tryz.prog 254 2=some (2,false,1):=by kernel_rfl
@[go_sem] theorem Z8fa (a:V):Zj Tryz.prog 254 a 2=Zlc (some (2,false,1)) a:=Zg Zgv a
theorem Zfv:Zma Tryz.prog 254 3=some (3,false,1):=by kernel_rfl
@[go_sem] theorem Z7fa (a:V):Zj Tryz.prog 254 a 3=Zlc (some (3,false,1)) a:=Zg Zfv a
@[go_sem] theorem Tryz.iv261 (l:List V) (ik:IntKind) (n:Int):Zgk Tryz.prog 261 (.agg l) (.int ik n)=if 0≤n∧n<(3:Nat) then Z7j false 1 l (n.toNat * 1) else none:=Znda (P:=Tryz.prog) (e:=9) (by kernel_rfl) (by kernel_rfl) (by kernel_rfl) (by decide) l ik n
@[go_sem] theorem Tryz.bla261 (l:List (Nat × V)):Z8a Tryz.prog 261 l=(Zkb (mulP 1) [.str [],.str [],.str []] l).map .agg:=Zqu (P:=Tryz.prog) (N:=3) (e:=9) (by kernel_rfl) (by kernel_rfl) (by kernel_rfl) l
@[go_sem] theorem Zmha (k:IntKind) (n:Int):Z0r Tryz.prog 2 262 (.int k n)=some (.int .u64 (IntKind.wrap .u64 n)):=Zvo (P:=Tryz.prog) (s:=2) (d:=262) (by kernel_rfl) (by kernel_rfl) k n
@[go_sem] theorem Tryz.cv3_5 (k:IntKind) (n:Int):Z0r Tryz.prog 3 5 (.int k n)=some (.int .u8 (IntKind.wrap .u8 n)):=Zvo (P:=Tryz.prog) (s:=3) (d:=5) (by kernel_rfl) (by kernel_rfl) k n
@[go_sem] theorem Tryz.cv5_3 (k:IntKind) (n:Int):Z0r Tryz.prog 5 3 (.int k n)=some (.int .i64 (IntKind.wrap .i64 n)):=Zvo (P:=Tryz.prog) (s:=5) (d:=3) (by kernel_rfl) (by kernel_rfl) k n
@[go_sem] theorem Znha (k:IntKind) (n:Int):Z0r Tryz.prog 262 2 (.int k n)=some (.int .i64 (IntKind.wrap .i64 n)):=Zvo (P:=Tryz.prog) (s:=262) (d:=2) (by kernel_rfl) (by kernel_rfl) k n
end Go.Hs
end
