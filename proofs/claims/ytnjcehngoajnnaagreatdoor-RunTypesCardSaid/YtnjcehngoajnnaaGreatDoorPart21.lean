/- Part 21 of the proof of a statement of seat YtnjcehngoajnnaaGreatDoor: HsFactsG. -/
import Derived.Test.YtnjcehngoajnnaaGreatDoorPart20
import Derived.Test.YtnjcehngoajnnaaGreatDoorProg
import Derived.KernelRfl
set_option linter.unusedSimpArgs false
set_option linter.unusedVariables false
section
namespace Go.Hs
open Go.Proofs
theorem Ztw:Zka Tryz.prog 2=some (false,1):=by kernel_rfl
@[go_sem] theorem Tryz.load2 (H:Heap) (a:V):Zga Tryz.prog H 2 a=Zrb (some (false,1)) (Zdg H a) a:=Zma Ztw H a
@[go_sem] theorem Tryz.sz2:Zqb Tryz.prog 2=some 1:=by kernel_rfl
theorem Zsw:Zka Tryz.prog 3=some (false,1):=by kernel_rfl
@[go_sem] theorem Tryz.load3 (H:Heap) (a:V):Zga Tryz.prog H 3 a=Zrb (some (false,1)) (Zdg H a) a:=Zma Zsw H a
@[go_sem] theorem Tryz.sz3:Zqb Tryz.prog 3=some 1:=by kernel_rfl
@[go_sem] theorem Tryz.eqb4 (a b:Bool):Zyf Tryz.prog .eql 4 (.bool a) (.bool b)=some (.bool (a==b)):=(Zlt (P:=Tryz.prog) (by kernel_rfl) a b).1
@[go_sem] theorem Tryz.neb4 (a b:Bool):Zyf Tryz.prog .neq 4 (.bool a) (.bool b)=some (.bool (a != b)):=(Zlt (P:=Tryz.prog) (by kernel_rfl) a b).2
theorem Zrw:Zka Tryz.prog 5=some (false,1):=by kernel_rfl
@[go_sem] theorem Tryz.load5 (H:Heap) (a:V):Zga Tryz.prog H 5 a=Zrb (some (false,1)) (Zdg H a) a:=Zma Zrw H a
@[go_sem] theorem Tryz.sz5:Zqb Tryz.prog 5=some 1:=by kernel_rfl
theorem Zqw:Zka Tryz.prog 9=some (false,1):=by kernel_rfl
@[go_sem] theorem Tryz.load9 (H:Heap) (a:V):Zga Tryz.prog H 9 a=Zrb (some (false,1)) (Zdg H a) a:=Zma Zqw H a
@[go_sem] theorem Tryz.sz9:Zqb Tryz.prog 9=some 1:=by kernel_rfl
theorem Z8m:Z2v Tryz.prog 9=true:=by kernel_rfl
@[go_sem] theorem Tryz.len9 (a:V):Zvn Tryz.prog 9 a=Zmn false a:=Zk6 Z8m a
@[go_sem] theorem Tryz.ixs9 (s:List UInt8) (k:IntKind) (n:Int):Zrh Tryz.prog 9 (.str s) (.int k n)=if 0≤n then (s[n.toNat]?).map fun b => .int .u8 b.toNat else none:=Z7z Z8m s k n
@[go_sem] theorem Tryz.sls9 (s:List UInt8) (lo hi:Option V):Z6f Tryz.prog 9 (.str s) lo hi none=slJ (Z9 0 lo) (Z9 s.length hi) fun i j=>if i≤j∧j≤s.length then some (.str ((s.drop i).take (j-i))) else none:=Z9y Z8m s lo hi
theorem Z8t:Zka Tryz.prog 22=some (false,1):=by kernel_rfl
@[go_sem] theorem Tryz.load22 (H:Heap) (a:V):Zga Tryz.prog H 22 a=Zrb (some (false,1)) (Zdg H a) a:=Zma Z8t H a
@[go_sem] theorem Tryz.sz22:Zqb Tryz.prog 22=some 1:=by kernel_rfl
theorem Zjn:Zvd Tryz.prog 22=some 6:=by kernel_rfl
@[go_sem] theorem Tryz.idx22 (a i:V):Zda Tryz.prog 22 a i=Z5s (some 6) a i:=Z8a Zjn a i
@[go_sem] theorem Tryz.len22 (a:V):Zvn Tryz.prog 22 a=Zmn true a:=Zyb Zjn a
@[go_sem] theorem Tryz.bs22 (n:Nat) (l:List (Nat × V)):Zid Tryz.prog 22 n l=bsK 6 [.int .u8 0,.int .i64 0,.str [],.int .i64 0,.int .i64 0,.int .i64 0] n l:=Z3c (P:=Tryz.prog) (t:=22) (e:=59) (m:=6) (z:=[.int .u8 0,.int .i64 0,.str [],.int .i64 0,.int .i64 0,.int .i64 0]) (by kernel_rfl) (by kernel_rfl) (by kernel_rfl) rfl n l
theorem Zy0:Z0m Tryz.prog [22,22]=some (6,56):=by kernel_rfl
@[go_sem] theorem Tryz.appc22 (E:Ent) (ops:Array Oper) (Q:AS→Prop) (rest:List Oper) (e:Nat) (τ : Nat→V) (H:Heap) (a b:V):Z60 Tryz.prog E ops Q rest e τ H [22,22] a b=Z4u Tryz.prog E ops Q rest e τ H 6 56 a (Z1a H 6 b) (obS H a):=Zoj ops Zy0 e a b
theorem Z7t:Zka Tryz.prog 24=some (true,1):=by kernel_rfl
@[go_sem] theorem Tryz.load24 (H:Heap) (a:V):Zga Tryz.prog H 24 a=Zrb (some (true,1)) (Zdg H a) a:=Zma Z7t H a
@[go_sem] theorem Tryz.sz24:Zqb Tryz.prog 24=some 1:=by kernel_rfl
@[go_sem] theorem Tryz.zero24:Zwd Tryz.prog 24=some [.nils]:=by kernel_rfl
@[go_sem] theorem Tryz.bld24 (l:List (Nat × V)):Z9a Tryz.prog 24 l=(Zdb (Zuj [(0,1)]) [.nils] l).map .agg:=Zwa (P:=Tryz.prog) (t:=24) (tbl:=[(0,1)]) (z:=[.nils]) (by kernel_rfl) (by kernel_rfl) l
theorem Zvu:Zra Tryz.prog 24 0=some (0,false,1):=by kernel_rfl
@[go_sem] theorem Tryz.fa24_0 (a:V):Zi Tryz.prog 24 a 0=Zcd (some (0,false,1)) a:=Ze Zvu a
theorem Z6t:Zka Tryz.prog 25=some (false,1):=by kernel_rfl
@[go_sem] theorem Tryz.load25 (H:Heap) (a:V):Zga Tryz.prog H 25 a=Zrb (some (false,1)) (Zdg H a) a:=Zma Z6t H a
theorem Zi4:Zzh Tryz.prog 25=2:=by kernel_rfl
@[go_sem] theorem Tryz.eqn25 (a:V):Zyf Tryz.prog .eql 25 a .nils=(Z37 2 a).map .bool:=(Zly _ _ Zi4 (by simp) a).1
theorem Zin:Zvd Tryz.prog 25=some 2:=by kernel_rfl
@[go_sem] theorem Tryz.idx25 (a i:V):Zda Tryz.prog 25 a i=Z5s (some 2) a i:=Z8a Zin a i
@[go_sem] theorem Tryz.len25 (a:V):Zvn Tryz.prog 25 a=Zmn true a:=Zyb Zin a
@[go_sem] theorem Tryz.bs25 (n:Nat) (l:List (Nat × V)):Zid Tryz.prog 25 n l=bsK 2 [.str [],.int .i64 0] n l:=Z3c (P:=Tryz.prog) (t:=25) (e:=55) (m:=2) (z:=[.str [],.int .i64 0]) (by kernel_rfl) (by kernel_rfl) (by kernel_rfl) rfl n l
theorem Zx0:Z0m Tryz.prog [25,25]=some (2,24):=by kernel_rfl
@[go_sem] theorem Tryz.appc25 (E:Ent) (ops:Array Oper) (Q:AS→Prop) (rest:List Oper) (e:Nat) (τ : Nat→V) (H:Heap) (a b:V):Z60 Tryz.prog E ops Q rest e τ H [25,25] a b=Z4u Tryz.prog E ops Q rest e τ H 2 24 a (Z1a H 2 b) (obS H a):=Zoj ops Zx0 e a b
theorem Z5t:Zka Tryz.prog 30=some (false,1):=by kernel_rfl
@[go_sem] theorem Tryz.load30 (H:Heap) (a:V):Zga Tryz.prog H 30 a=Zrb (some (false,1)) (Zdg H a) a:=Zma Z5t H a
@[go_sem] theorem Tryz.sz30:Zqb Tryz.prog 30=some 1:=by kernel_rfl
@[go_sem] theorem Tryz.zero30:Zwd Tryz.prog 30=some [.int .i64 0]:=by kernel_rfl
theorem Z4t:Zka Tryz.prog 34=some (true,3):=by kernel_rfl
@[go_sem] theorem Tryz.load34 (H:Heap) (a:V):Zga Tryz.prog H 34 a=Zrb (some (true,3)) (Zdg H a) a:=Zma Z4t H a
@[go_sem] theorem Tryz.sz34:Zqb Tryz.prog 34=some 3:=by kernel_rfl
@[go_sem] theorem Tryz.zero34:Zwd Tryz.prog 34=some [.int .u8 0,.int .i64 0,.bool false]:=by kernel_rfl
@[go_sem] theorem Tryz.bld34 (l:List (Nat × V)):Z9a Tryz.prog 34 l=(Zdb (Zuj [(0,1),(1,1),(2,1)]) [.int .u8 0,.int .i64 0,.bool false] l).map .agg:=Zwa (P:=Tryz.prog) (t:=34) (tbl:=[(0,1),(1,1),(2,1)]) (z:=[.int .u8 0,.int .i64 0,.bool false]) (by kernel_rfl) (by kernel_rfl) l
theorem Zuu:Zra Tryz.prog 34 0=some (0,false,1):=by kernel_rfl
@[go_sem] theorem Tryz.fa34_0 (a:V):Zi Tryz.prog 34 a 0=Zcd (some (0,false,1)) a:=Ze Zuu a
theorem Ztk:Zra Tryz.prog 34 1=some (1,false,1):=by kernel_rfl
@[go_sem] theorem Tryz.fa34_1 (a:V):Zi Tryz.prog 34 a 1=Zcd (some (1,false,1)) a:=Ze Ztk a
@[go_sem] theorem Tryz.fv34_1 (l:List V):Zqk Tryz.prog 34 (.agg l) 1=Zxh false 1 l 1:=Zdy Ztk l
theorem Ztu:Zra Tryz.prog 34 2=some (2,false,1):=by kernel_rfl
@[go_sem] theorem Tryz.fv34_2 (l:List V):Zqk Tryz.prog 34 (.agg l) 2=Zxh false 1 l 2:=Zdy Ztu l
@[go_sem] theorem Tryz.eqls34 (x0 y0:Int) (x1 y1:Int) (x2 y2:Bool):Zyf Tryz.prog .eql 34 (.agg [.int .u8 x0,.int .i64 x1,.bool x2]) (.agg [.int .u8 y0,.int .i64 y1,.bool y2])=some (.bool (x0==y0 && (x1==y1 && (x2==y2 && true)))):=(Zkt (P:=Tryz.prog) (t:=34) (by kernel_rfl) (Zzp (Zzp (Zk3 Zfy x2 y2) .i64 x1 y1) .u8 x0 y0)).1
theorem Z3t:Zka Tryz.prog 53=some (false,1):=by kernel_rfl
@[go_sem] theorem Tryz.load53 (H:Heap) (a:V):Zga Tryz.prog H 53 a=Zrb (some (false,1)) (Zdg H a) a:=Zma Z3t H a
theorem Zh4:Zzh Tryz.prog 53=2:=by kernel_rfl
@[go_sem] theorem Tryz.eqn53 (a:V):Zyf Tryz.prog .eql 53 a .nils=(Z37 2 a).map .bool:=(Zly _ _ Zh4 (by simp) a).1
theorem Zhn:Zvd Tryz.prog 53=some 1:=by kernel_rfl
@[go_sem] theorem Tryz.idx53 (a i:V):Zda Tryz.prog 53 a i=Z5s (some 1) a i:=Z8a Zhn a i
@[go_sem] theorem Tryz.len53 (a:V):Zvn Tryz.prog 53 a=Zmn true a:=Zyb Zhn a
@[go_sem] theorem Tryz.bs53 (n:Nat) (l:List (Nat × V)):Zid Tryz.prog 53 n l=bsK 1 [.str []] n l:=Z3c (P:=Tryz.prog) (t:=53) (e:=9) (m:=1) (z:=[.str []]) (by kernel_rfl) (by kernel_rfl) (by kernel_rfl) rfl n l
theorem Zw0:Z0m Tryz.prog [53,53]=some (1,16):=by kernel_rfl
@[go_sem] theorem Tryz.appc53 (E:Ent) (ops:Array Oper) (Q:AS→Prop) (rest:List Oper) (e:Nat) (τ : Nat→V) (H:Heap) (a b:V):Z60 Tryz.prog E ops Q rest e τ H [53,53] a b=Z4u Tryz.prog E ops Q rest e τ H 1 16 a (Z1a H 1 b) (obS H a):=Zoj ops Zw0 e a b
theorem Z2t:Zka Tryz.prog 55=some (true,2):=by kernel_rfl
@[go_sem] theorem Tryz.load55 (H:Heap) (a:V):Zga Tryz.prog H 55 a=Zrb (some (true,2)) (Zdg H a) a:=Zma Z2t H a
@[go_sem] theorem Tryz.bld55 (l:List (Nat × V)):Z9a Tryz.prog 55 l=(Zdb (Zuj [(0,1),(1,1)]) [.str [],.int .i64 0] l).map .agg:=Zwa (P:=Tryz.prog) (t:=55) (tbl:=[(0,1),(1,1)]) (z:=[.str [],.int .i64 0]) (by kernel_rfl) (by kernel_rfl) l
theorem Zsu:Zra Tryz.prog 55 0=some (0,false,1):=by kernel_rfl
@[go_sem] theorem Tryz.fa55_0 (a:V):Zi Tryz.prog 55 a 0=Zcd (some (0,false,1)) a:=Ze Zsu a
theorem Zru:Zra Tryz.prog 55 1=some (1,false,1):=by kernel_rfl
@[go_sem] theorem Tryz.fa55_1 (a:V):Zi Tryz.prog 55 a 1=Zcd (some (1,false,1)) a:=Ze Zru a
theorem Z1t:Zka Tryz.prog 59=some (true,6):=by kernel_rfl
@[go_sem] theorem Tryz.load59 (H:Heap) (a:V):Zga Tryz.prog H 59 a=Zrb (some (true,6)) (Zdg H a) a:=Zma Z1t H a
@[go_sem] theorem Tryz.sz59:Zqb Tryz.prog 59=some 6:=by kernel_rfl
@[go_sem] theorem Tryz.zero59:Zwd Tryz.prog 59=some [.int .u8 0,.int .i64 0,.str [],.int .i64 0,.int .i64 0,.int .i64 0]:=by kernel_rfl
@[go_sem] theorem Tryz.bld59 (l:List (Nat × V)):Z9a Tryz.prog 59 l=(Zdb (Zuj [(0,1),(1,1),(2,1),(3,1),(4,1),(5,1)]) [.int .u8 0,.int .i64 0,.str [],.int .i64 0,.int .i64 0,.int .i64 0] l).map .agg:=Zwa (P:=Tryz.prog) (t:=59) (tbl:=[(0,1),(1,1),(2,1),(3,1),(4,1),(5,1)]) (z:=[.int .u8 0,.int .i64 0,.str [],.int .i64 0,.int .i64 0,.int .i64 0]) (by kernel_rfl) (by kernel_rfl) l
theorem Zqu:Zra Tryz.prog 59 0=some (0,false,1):=by kernel_rfl
@[go_sem] theorem Tryz.fa59_0 (a:V):Zi Tryz.prog 59 a 0=Zcd (some (0,false,1)) a:=Ze Zqu a
theorem Zpu:Zra Tryz.prog 59 1=some (1,false,1):=by kernel_rfl
@[go_sem] theorem Tryz.fa59_1 (a:V):Zi Tryz.prog 59 a 1=Zcd (some (1,false,1)) a:=Ze Zpu a
theorem Zou:Zra Tryz.prog 59 2=some (2,false,1):=by kernel_rfl
@[go_sem] theorem Tryz.fa59_2 (a:V):Zi Tryz.prog 59 a 2=Zcd (some (2,false,1)) a:=Ze Zou a
theorem Znu:Zra Tryz.prog 59 3=some (3,false,1):=by kernel_rfl
@[go_sem] theorem Tryz.fa59_3 (a:V):Zi Tryz.prog 59 a 3=Zcd (some (3,false,1)) a:=Ze Znu a
theorem Zmu:Zra Tryz.prog 59 4=some (4,false,1):=by kernel_rfl
@[go_sem] theorem Tryz.fa59_4 (a:V):Zi Tryz.prog 59 a 4=Zcd (some (4,false,1)) a:=Ze Zmu a
theorem Zlu:Zra Tryz.prog 59 5=some (5,false,1):=by kernel_rfl
@[go_sem] theorem Tryz.fa59_5 (a:V):Zi Tryz.prog 59 a 5=Zcd (some (5,false,1)) a:=Ze Zlu a
theorem Z0t:Zka Tryz.prog 61=some (false,1):=by kernel_rfl
@[go_sem] theorem Tryz.load61 (H:Heap) (a:V):Zga Tryz.prog H 61 a=Zrb (some (false,1)) (Zdg H a) a:=Zma Z0t H a
@[go_sem] theorem Tryz.sz61:Zqb Tryz.prog 61=some 1:=by kernel_rfl
theorem Zgn:Zvd Tryz.prog 61=some 3:=by kernel_rfl
@[go_sem] theorem Tryz.idx61 (a i:V):Zda Tryz.prog 61 a i=Z5s (some 3) a i:=Z8a Zgn a i
@[go_sem] theorem Tryz.len61 (a:V):Zvn Tryz.prog 61 a=Zmn true a:=Zyb Zgn a
@[go_sem] theorem Tryz.bs61 (n:Nat) (l:List (Nat × V)):Zid Tryz.prog 61 n l=bsK 3 [.int .u8 0,.str [],.nils] n l:=Z3c (P:=Tryz.prog) (t:=61) (e:=92) (m:=3) (z:=[.int .u8 0,.str [],.nils]) (by kernel_rfl) (by kernel_rfl) (by kernel_rfl) rfl n l
theorem Zv0:Z0m Tryz.prog [61,61]=some (3,48):=by kernel_rfl
@[go_sem] theorem Tryz.appc61 (E:Ent) (ops:Array Oper) (Q:AS→Prop) (rest:List Oper) (e:Nat) (τ : Nat→V) (H:Heap) (a b:V):Z60 Tryz.prog E ops Q rest e τ H [61,61] a b=Z4u Tryz.prog E ops Q rest e τ H 3 48 a (Z1a H 3 b) (obS H a):=Zoj ops Zv0 e a b
theorem Zzt:Zka Tryz.prog 63=some (true,1):=by kernel_rfl
@[go_sem] theorem Tryz.load63 (H:Heap) (a:V):Zga Tryz.prog H 63 a=Zrb (some (true,1)) (Zdg H a) a:=Zma Zzt H a
@[go_sem] theorem Tryz.sz63:Zqb Tryz.prog 63=some 1:=by kernel_rfl
@[go_sem] theorem Tryz.zero63:Zwd Tryz.prog 63=some [.nils]:=by kernel_rfl
@[go_sem] theorem Tryz.bld63 (l:List (Nat × V)):Z9a Tryz.prog 63 l=(Zdb (Zuj [(0,1)]) [.nils] l).map .agg:=Zwa (P:=Tryz.prog) (t:=63) (tbl:=[(0,1)]) (z:=[.nils]) (by kernel_rfl) (by kernel_rfl) l
theorem Zku:Zra Tryz.prog 63 0=some (0,false,1):=by kernel_rfl
@[go_sem] theorem Tryz.fa63_0 (a:V):Zi Tryz.prog 63 a 0=Zcd (some (0,false,1)) a:=Ze Zku a
theorem Zyt:Zka Tryz.prog 72=some (false,1):=by kernel_rfl
@[go_sem] theorem Tryz.load72 (H:Heap) (a:V):Zga Tryz.prog H 72 a=Zrb (some (false,1)) (Zdg H a) a:=Zma Zyt H a
@[go_sem] theorem Tryz.sz72:Zqb Tryz.prog 72=some 1:=by kernel_rfl
theorem Zfn:Zvd Tryz.prog 72=some 2:=by kernel_rfl
@[go_sem] theorem Tryz.idx72 (a i:V):Zda Tryz.prog 72 a i=Z5s (some 2) a i:=Z8a Zfn a i
@[go_sem] theorem Tryz.len72 (a:V):Zvn Tryz.prog 72 a=Zmn true a:=Zyb Zfn a
@[go_sem] theorem Tryz.bs72 (n:Nat) (l:List (Nat × V)):Zid Tryz.prog 72 n l=bsK 2 [.str [],.int .i64 0] n l:=Z3c (P:=Tryz.prog) (t:=72) (e:=79) (m:=2) (z:=[.str [],.int .i64 0]) (by kernel_rfl) (by kernel_rfl) (by kernel_rfl) rfl n l
theorem Zu0:Z0m Tryz.prog [72,72]=some (2,24):=by kernel_rfl
@[go_sem] theorem Tryz.appc72 (E:Ent) (ops:Array Oper) (Q:AS→Prop) (rest:List Oper) (e:Nat) (τ : Nat→V) (H:Heap) (a b:V):Z60 Tryz.prog E ops Q rest e τ H [72,72] a b=Z4u Tryz.prog E ops Q rest e τ H 2 24 a (Z1a H 2 b) (obS H a):=Zoj ops Zu0 e a b
theorem Zxt:Zka Tryz.prog 74=some (true,3):=by kernel_rfl
@[go_sem] theorem Tryz.load74 (H:Heap) (a:V):Zga Tryz.prog H 74 a=Zrb (some (true,3)) (Zdg H a) a:=Zma Zxt H a
@[go_sem] theorem Tryz.sz74:Zqb Tryz.prog 74=some 3:=by kernel_rfl
@[go_sem] theorem Tryz.zero74:Zwd Tryz.prog 74=some [.nils,.nils,.int .i64 0]:=by kernel_rfl
@[go_sem] theorem Tryz.bld74 (l:List (Nat × V)):Z9a Tryz.prog 74 l=(Zdb (Zuj [(0,1),(1,1),(2,1)]) [.nils,.nils,.int .i64 0] l).map .agg:=Zwa (P:=Tryz.prog) (t:=74) (tbl:=[(0,1),(1,1),(2,1)]) (z:=[.nils,.nils,.int .i64 0]) (by kernel_rfl) (by kernel_rfl) l
theorem Zju:Zra Tryz.prog 74 0=some (0,false,1):=by kernel_rfl
@[go_sem] theorem Tryz.fa74_0 (a:V):Zi Tryz.prog 74 a 0=Zcd (some (0,false,1)) a:=Ze Zju a
theorem Ziu:Zra Tryz.prog 74 1=some (1,false,1):=by kernel_rfl
@[go_sem] theorem Tryz.fa74_1 (a:V):Zi Tryz.prog 74 a 1=Zcd (some (1,false,1)) a:=Ze Ziu a
theorem Zhu:Zra Tryz.prog 74 2=some (2,false,1):=by kernel_rfl
@[go_sem] theorem Tryz.fa74_2 (a:V):Zi Tryz.prog 74 a 2=Zcd (some (2,false,1)) a:=Ze Zhu a
theorem Zwt:Zka Tryz.prog 79=some (true,2):=by kernel_rfl
@[go_sem] theorem Tryz.load79 (H:Heap) (a:V):Zga Tryz.prog H 79 a=Zrb (some (true,2)) (Zdg H a) a:=Zma Zwt H a
@[go_sem] theorem Tryz.bld79 (l:List (Nat × V)):Z9a Tryz.prog 79 l=(Zdb (Zuj [(0,1),(1,1)]) [.str [],.int .i64 0] l).map .agg:=Zwa (P:=Tryz.prog) (t:=79) (tbl:=[(0,1),(1,1)]) (z:=[.str [],.int .i64 0]) (by kernel_rfl) (by kernel_rfl) l
theorem Zgu:Zra Tryz.prog 79 0=some (0,false,1):=by kernel_rfl
@[go_sem] theorem Tryz.fa79_0 (a:V):Zi Tryz.prog 79 a 0=Zcd (some (0,false,1)) a:=Ze Zgu a
theorem Zfu:Zra Tryz.prog 79 1=some (1,false,1):=by kernel_rfl
@[go_sem] theorem Tryz.fa79_1 (a:V):Zi Tryz.prog 79 a 1=Zcd (some (1,false,1)) a:=Ze Zfu a
@[go_sem] theorem Tryz.neqs79 (x0 y0:List UInt8) (x1 y1:Int):Zyf Tryz.prog .neq 79 (.agg [.str x0,.int .i64 x1]) (.agg [.str y0,.int .i64 y1])=some (.bool (!(x0==y0 && (x1==y1 && true)))):=(Zkt (P:=Tryz.prog) (t:=79) (by kernel_rfl) (Z36 (Zzp Zfy .i64 x1 y1) x0 y0)).2
theorem Zvt:Zka Tryz.prog 92=some (true,3):=by kernel_rfl
@[go_sem] theorem Tryz.load92 (H:Heap) (a:V):Zga Tryz.prog H 92 a=Zrb (some (true,3)) (Zdg H a) a:=Zma Zvt H a
@[go_sem] theorem Tryz.sz92:Zqb Tryz.prog 92=some 3:=by kernel_rfl
@[go_sem] theorem Tryz.zero92:Zwd Tryz.prog 92=some [.int .u8 0,.str [],.nils]:=by kernel_rfl
theorem Zeu:Zra Tryz.prog 92 0=some (0,false,1):=by kernel_rfl
@[go_sem] theorem Tryz.fa92_0 (a:V):Zi Tryz.prog 92 a 0=Zcd (some (0,false,1)) a:=Ze Zeu a
theorem Zdu:Zra Tryz.prog 92 1=some (1,false,1):=by kernel_rfl
@[go_sem] theorem Tryz.fa92_1 (a:V):Zi Tryz.prog 92 a 1=Zcd (some (1,false,1)) a:=Ze Zdu a
theorem Zcu:Zra Tryz.prog 92 2=some (2,true,1):=by kernel_rfl
@[go_sem] theorem Tryz.fa92_2 (a:V):Zi Tryz.prog 92 a 2=Zcd (some (2,true,1)) a:=Ze Zcu a
theorem Zut:Zka Tryz.prog 99=some (true,3):=by kernel_rfl
@[go_sem] theorem Tryz.load99 (H:Heap) (a:V):Zga Tryz.prog H 99 a=Zrb (some (true,3)) (Zdg H a) a:=Zma Zut H a
@[go_sem] theorem Tryz.bld99 (l:List (Nat × V)):Z9a Tryz.prog 99 l=(Zdb (Zuj [(0,1),(1,1),(2,1)]) [.str [],.int .i64 0,.int .i64 0] l).map .agg:=Zwa (P:=Tryz.prog) (t:=99) (tbl:=[(0,1),(1,1),(2,1)]) (z:=[.str [],.int .i64 0,.int .i64 0]) (by kernel_rfl) (by kernel_rfl) l
theorem Zbu:Zra Tryz.prog 99 0=some (0,false,1):=by kernel_rfl
@[go_sem] theorem Tryz.fa99_0 (a:V):Zi Tryz.prog 99 a 0=Zcd (some (0,false,1)) a:=Ze Zbu a
theorem Zau:Zra Tryz.prog 99 1=some (1,false,1):=by kernel_rfl
@[go_sem] theorem Tryz.fa99_1 (a:V):Zi Tryz.prog 99 a 1=Zcd (some (1,false,1)) a:=Ze Zau a
theorem Z9t:Zra Tryz.prog 99 2=some (2,false,1):=by kernel_rfl
@[go_sem] theorem Tryz.fa99_2 (a:V):Zi Tryz.prog 99 a 2=Zcd (some (2,false,1)) a:=Ze Z9t a
theorem Zpq:Zka Tryz.prog 100=some (true,69):=by kernel_rfl
@[go_sem] theorem Z38 (H:Heap) (a:V):Zga Tryz.prog H 100 a=Zrb (some (true,69)) (Zdg H a) a:=Zma Zpq H a
@[go_sem] theorem Tryz.sz100:Zqb Tryz.prog 100=some 69:=by kernel_rfl
@[go_sem] theorem Zs8:Zwd Tryz.prog 100=some (.str [] :: .int .i64 0 :: .int .i64 0 :: .str [] :: .int .i64 0 :: .int .i64 0 :: .str [] :: .int .i64 0 :: .int .i64 0 :: .str [] :: .int .i64 0 :: .int .i64 0 :: .str [] :: .int .i64 0 :: .int .i64 0 :: .str [] :: .int .i64 0 :: .int .i64 0 :: .str [] :: .int .i64 0 :: .int .i64 0 :: .str [] :: .int .i64 0 :: .int .i64 0 :: .str [] :: .int .i64 0 :: .int .i64 0 :: .str [] :: .int .i64 0 :: .int .i64 0 :: .str [] :: .int .i64 0 :: .int .i64 0 :: .str [] :: .int .i64 0 :: .int .i64 0 :: .str [] :: .int .i64 0 :: .int .i64 0 :: .str [] :: .int .i64 0 :: .int .i64 0 :: .str [] :: .int .i64 0 :: .int .i64 0 :: .str [] :: .int .i64 0 :: .int .i64 0 :: .str [] :: .int .i64 0 :: .int .i64 0 :: .str [] :: .int .i64 0 :: .int .i64 0 :: .str [] :: .int .i64 0 :: .int .i64 0 :: .str [] :: .int .i64 0 :: .int .i64 0 :: .str [] :: .int .i64 0 :: .int .i64 0 :: .str [] :: .int .i64 0 :: .int .i64 0 :: .str [] :: .int .i64 0 :: .int .i64 0::[]):=by kernel_rfl
@[go_sem] theorem Tryz.ia100 (a:V) (ik:IntKind) (n:Int):Zda Tryz.prog 100 a (.int ik n)=idxA 23 3 true a ik n:=Zng (P:=Tryz.prog) (e:=99) (by kernel_rfl) (by kernel_rfl) (by kernel_rfl) (by decide) a ik n
@[go_sem] theorem Tryz.bla100 (l:List (Nat × V)):Z9a Tryz.prog 100 l=(Zdb (mulP 3) (.str [] :: .int .i64 0 :: .int .i64 0 :: .str [] :: .int .i64 0 :: .int .i64 0 :: .str [] :: .int .i64 0 :: .int .i64 0 :: .str [] :: .int .i64 0 :: .int .i64 0 :: .str [] :: .int .i64 0 :: .int .i64 0 :: .str [] :: .int .i64 0 :: .int .i64 0 :: .str [] :: .int .i64 0 :: .int .i64 0 :: .str [] :: .int .i64 0 :: .int .i64 0 :: .str [] :: .int .i64 0 :: .int .i64 0 :: .str [] :: .int .i64 0 :: .int .i64 0 :: .str [] :: .int .i64 0 :: .int .i64 0 :: .str [] :: .int .i64 0 :: .int .i64 0 :: .str [] :: .int .i64 0 :: .int .i64 0 :: .str [] :: .int .i64 0 :: .int .i64 0 :: .str [] :: .int .i64 0 :: .int .i64 0 :: .str [] :: .int .i64 0 :: .int .i64 0 :: .str [] :: .int .i64 0 :: .int .i64 0 :: .str [] :: .int .i64 0 :: .int .i64 0 :: .str [] :: .int .i64 0 :: .int .i64 0 :: .str [] :: .int .i64 0 :: .int .i64 0 :: .str [] :: .int .i64 0 :: .int .i64 0 :: .str [] :: .int .i64 0 :: .int .i64 0 :: .str [] :: .int .i64 0 :: .int .i64 0::[]) l).map .agg:=Z7p (P:=Tryz.prog) (N:=23) (e:=99) (by kernel_rfl) (by kernel_rfl) (by kernel_rfl) l
theorem Zxg:Zvd Tryz.prog 102=some 2:=by kernel_rfl
@[go_sem] theorem Tryz.idx102 (a i:V):Zda Tryz.prog 102 a i=Z5s (some 2) a i:=Z8a Zxg a i
@[go_sem] theorem Tryz.len102 (a:V):Zvn Tryz.prog 102 a=Zmn true a:=Zyb Zxg a
@[go_sem] theorem Tryz.sl102 (a:V) (lo hi:Option V):Z6f Tryz.prog 102 a lo hi none=slK 2 a lo hi:=Zjx Zxg a lo hi
@[go_sem] theorem Tryz.bs102 (n:Nat) (l:List (Nat × V)):Zid Tryz.prog 102 n l=bsK 2 [.int .i64 0,.int .i64 0] n l:=Z3c (P:=Tryz.prog) (t:=102) (e:=106) (m:=2) (z:=[.int .i64 0,.int .i64 0]) (by kernel_rfl) (by kernel_rfl) (by kernel_rfl) rfl n l
theorem Z1w:Z0m Tryz.prog [102,102]=some (2,16):=by kernel_rfl
@[go_sem] theorem Z29 (E:Ent) (ops:Array Oper) (Q:AS→Prop) (rest:List Oper) (e:Nat) (τ : Nat→V) (H:Heap) (a b:V):Z60 Tryz.prog E ops Q rest e τ H [102,102] a b=Z4u Tryz.prog E ops Q rest e τ H 2 16 a (Z1a H 2 b) (obS H a):=Zoj ops Z1w e a b
theorem Zwk:Zvd Tryz.prog 104=some 1:=by kernel_rfl
@[go_sem] theorem Tryz.idx104 (a i:V):Zda Tryz.prog 104 a i=Z5s (some 1) a i:=Z8a Zwk a i
@[go_sem] theorem Tryz.len104 (a:V):Zvn Tryz.prog 104 a=Zmn true a:=Zyb Zwk a
@[go_sem] theorem Tryz.bs104 (n:Nat) (l:List (Nat × V)):Zid Tryz.prog 104 n l=bsK 1 [.int .i64 0] n l:=Z3c (P:=Tryz.prog) (t:=104) (e:=3) (m:=1) (z:=[.int .i64 0]) (by kernel_rfl) (by kernel_rfl) (by kernel_rfl) rfl n l
theorem Z0w:Z0m Tryz.prog [104,104]=some (1,8):=by kernel_rfl
@[go_sem] theorem Z19 (E:Ent) (ops:Array Oper) (Q:AS→Prop) (rest:List Oper) (e:Nat) (τ : Nat→V) (H:Heap) (a b:V):Z60 Tryz.prog E ops Q rest e τ H [104,104] a b=Z4u Tryz.prog E ops Q rest e τ H 1 8 a (Z1a H 1 b) (obS H a):=Zoj ops Z0w e a b
theorem Zoq:Zka Tryz.prog 106=some (true,2):=by kernel_rfl
@[go_sem] theorem Z28 (H:Heap) (a:V):Zga Tryz.prog H 106 a=Zrb (some (true,2)) (Zdg H a) a:=Zma Zoq H a
@[go_sem] theorem Tryz.sz106:Zqb Tryz.prog 106=some 2:=by kernel_rfl
@[go_sem] theorem Zr8:Zwd Tryz.prog 106=some [.int .i64 0,.int .i64 0]:=by kernel_rfl
@[go_sem] theorem Tryz.bld106 (l:List (Nat × V)):Z9a Tryz.prog 106 l=(Zdb (Zuj [(0,1),(1,1)]) [.int .i64 0,.int .i64 0] l).map .agg:=Zwa (P:=Tryz.prog) (t:=106) (tbl:=[(0,1),(1,1)]) (z:=[.int .i64 0,.int .i64 0]) (by kernel_rfl) (by kernel_rfl) l
theorem Zir:Zra Tryz.prog 106 0=some (0,false,1):=by kernel_rfl
@[go_sem] theorem Zw9 (a:V):Zi Tryz.prog 106 a 0=Zcd (some (0,false,1)) a:=Ze Zir a
theorem Zhr:Zra Tryz.prog 106 1=some (1,false,1):=by kernel_rfl
@[go_sem] theorem Zv9 (a:V):Zi Tryz.prog 106 a 1=Zcd (some (1,false,1)) a:=Ze Zhr a
theorem Znq:Zka Tryz.prog 116=some (false,1):=by kernel_rfl
@[go_sem] theorem Z18 (H:Heap) (a:V):Zga Tryz.prog H 116 a=Zrb (some (false,1)) (Zdg H a) a:=Zma Znq H a
theorem Zwg:Zvd Tryz.prog 116=some 3:=by kernel_rfl
@[go_sem] theorem Tryz.idx116 (a i:V):Zda Tryz.prog 116 a i=Z5s (some 3) a i:=Z8a Zwg a i
@[go_sem] theorem Tryz.len116 (a:V):Zvn Tryz.prog 116 a=Zmn true a:=Zyb Zwg a
@[go_sem] theorem Tryz.sl116 (a:V) (lo hi:Option V):Z6f Tryz.prog 116 a lo hi none=slK 3 a lo hi:=Zjx Zwg a lo hi
@[go_sem] theorem Tryz.bs116 (n:Nat) (l:List (Nat × V)):Zid Tryz.prog 116 n l=bsK 3 [.int .u8 0,.str [],.int .i64 0] n l:=Z3c (P:=Tryz.prog) (t:=116) (e:=121) (m:=3) (z:=[.int .u8 0,.str [],.int .i64 0]) (by kernel_rfl) (by kernel_rfl) (by kernel_rfl) rfl n l
theorem Zzw:Z0m Tryz.prog [116,116]=some (3,32):=by kernel_rfl
@[go_sem] theorem Z09 (E:Ent) (ops:Array Oper) (Q:AS→Prop) (rest:List Oper) (e:Nat) (τ : Nat→V) (H:Heap) (a b:V):Z60 Tryz.prog E ops Q rest e τ H [116,116] a b=Z4u Tryz.prog E ops Q rest e τ H 3 32 a (Z1a H 3 b) (obS H a):=Zoj ops Zzw e a b
theorem Zmq:Zka Tryz.prog 121=some (true,3):=by kernel_rfl
@[go_sem] theorem Z08 (H:Heap) (a:V):Zga Tryz.prog H 121 a=Zrb (some (true,3)) (Zdg H a) a:=Zma Zmq H a
@[go_sem] theorem Tryz.sz121:Zqb Tryz.prog 121=some 3:=by kernel_rfl
@[go_sem] theorem Zq8:Zwd Tryz.prog 121=some [.int .u8 0,.str [],.int .i64 0]:=by kernel_rfl
@[go_sem] theorem Tryz.bld121 (l:List (Nat × V)):Z9a Tryz.prog 121 l=(Zdb (Zuj [(0,1),(1,1),(2,1)]) [.int .u8 0,.str [],.int .i64 0] l).map .agg:=Zwa (P:=Tryz.prog) (t:=121) (tbl:=[(0,1),(1,1),(2,1)]) (z:=[.int .u8 0,.str [],.int .i64 0]) (by kernel_rfl) (by kernel_rfl) l
theorem Zgr:Zra Tryz.prog 121 0=some (0,false,1):=by kernel_rfl
@[go_sem] theorem Zu9 (a:V):Zi Tryz.prog 121 a 0=Zcd (some (0,false,1)) a:=Ze Zgr a
theorem Zfr:Zra Tryz.prog 121 1=some (1,false,1):=by kernel_rfl
@[go_sem] theorem Zt9 (a:V):Zi Tryz.prog 121 a 1=Zcd (some (1,false,1)) a:=Ze Zfr a
theorem Zer:Zra Tryz.prog 121 2=some (2,false,1):=by kernel_rfl
@[go_sem] theorem Zs9 (a:V):Zi Tryz.prog 121 a 2=Zcd (some (2,false,1)) a:=Ze Zer a
theorem Zlq:Zka Tryz.prog 122=some (false,1):=by kernel_rfl
@[go_sem] theorem Zz8 (H:Heap) (a:V):Zga Tryz.prog H 122 a=Zrb (some (false,1)) (Zdg H a) a:=Zma Zlq H a
theorem Zvk:Zvd Tryz.prog 122=some 1:=by kernel_rfl
@[go_sem] theorem Tryz.idx122 (a i:V):Zda Tryz.prog 122 a i=Z5s (some 1) a i:=Z8a Zvk a i
@[go_sem] theorem Tryz.len122 (a:V):Zvn Tryz.prog 122 a=Zmn true a:=Zyb Zvk a
@[go_sem] theorem Tryz.bs122 (n:Nat) (l:List (Nat × V)):Zid Tryz.prog 122 n l=bsK 1 [.int .u8 0] n l:=Z3c (P:=Tryz.prog) (t:=122) (e:=5) (m:=1) (z:=[.int .u8 0]) (by kernel_rfl) (by kernel_rfl) (by kernel_rfl) rfl n l
theorem Zyw:Z0m Tryz.prog [122,122]=some (1,1):=by kernel_rfl
@[go_sem] theorem Zz9 (E:Ent) (ops:Array Oper) (Q:AS→Prop) (rest:List Oper) (e:Nat) (τ : Nat→V) (H:Heap) (a b:V):Z60 Tryz.prog E ops Q rest e τ H [122,122] a b=Z4u Tryz.prog E ops Q rest e τ H 1 1 a (Z1a H 1 b) (obS H a):=Zoj ops Zyw e a b
@[go_sem] theorem Tryz.bld133 (l:List (Nat × V)):Z9a Tryz.prog 133 l=(Zdb (Zuj [(0,3),(3,1)]) [.nils,.nils,.int .i64 0,.int .i64 0] l).map .agg:=Zwa (P:=Tryz.prog) (t:=133) (tbl:=[(0,3),(3,1)]) (z:=[.nils,.nils,.int .i64 0,.int .i64 0]) (by kernel_rfl) (by kernel_rfl) l
theorem Zdr:Zra Tryz.prog 133 0=some (0,true,3):=by kernel_rfl
@[go_sem] theorem Zr9 (a:V):Zi Tryz.prog 133 a 0=Zcd (some (0,true,3)) a:=Ze Zdr a
theorem Zcr:Zra Tryz.prog 133 1=some (3,false,1):=by kernel_rfl
@[go_sem] theorem Zq9 (a:V):Zi Tryz.prog 133 a 1=Zcd (some (3,false,1)) a:=Ze Zcr a
@[go_sem] theorem Tryz.bld146 (l:List (Nat × V)):Z9a Tryz.prog 146 l=(Zdb (Zuj [(0,1),(1,1),(2,1)]) [.nils,.int .i64 0,.int .i64 0] l).map .agg:=Zwa (P:=Tryz.prog) (t:=146) (tbl:=[(0,1),(1,1),(2,1)]) (z:=[.nils,.int .i64 0,.int .i64 0]) (by kernel_rfl) (by kernel_rfl) l
theorem Zbr:Zra Tryz.prog 146 0=some (0,false,1):=by kernel_rfl
@[go_sem] theorem Zp9 (a:V):Zi Tryz.prog 146 a 0=Zcd (some (0,false,1)) a:=Ze Zbr a
theorem Zar:Zra Tryz.prog 146 1=some (1,false,1):=by kernel_rfl
@[go_sem] theorem Zo9 (a:V):Zi Tryz.prog 146 a 1=Zcd (some (1,false,1)) a:=Ze Zar a
theorem Z9q:Zra Tryz.prog 146 2=some (2,false,1):=by kernel_rfl
@[go_sem] theorem Zn9 (a:V):Zi Tryz.prog 146 a 2=Zcd (some (2,false,1)) a:=Ze Z9q a
@[go_sem] theorem Tryz.bld148 (l:List (Nat × V)):Z9a Tryz.prog 148 l=(Zdb (Zuj [(0,3),(3,1)]) [.nils,.int .i64 0,.int .i64 0,.nils] l).map .agg:=Zwa (P:=Tryz.prog) (t:=148) (tbl:=[(0,3),(3,1)]) (z:=[.nils,.int .i64 0,.int .i64 0,.nils]) (by kernel_rfl) (by kernel_rfl) l
theorem Z8q:Zra Tryz.prog 148 0=some (0,true,3):=by kernel_rfl
@[go_sem] theorem Zm9 (a:V):Zi Tryz.prog 148 a 0=Zcd (some (0,true,3)) a:=Ze Z8q a
theorem Z7q:Zra Tryz.prog 148 1=some (3,false,1):=by kernel_rfl
@[go_sem] theorem Zl9 (a:V):Zi Tryz.prog 148 a 1=Zcd (some (3,false,1)) a:=Ze Z7q a
@[go_sem] theorem Tryz.sz152:Zqb Tryz.prog 152=some 1:=by kernel_rfl
@[go_sem] theorem Zp8:Zwd Tryz.prog 152=some [.int .i64 0]:=by kernel_rfl
@[go_sem] theorem Tryz.bld152 (l:List (Nat × V)):Z9a Tryz.prog 152 l=(Zdb (Zuj [(0,1)]) [.int .i64 0] l).map .agg:=Zwa (P:=Tryz.prog) (t:=152) (tbl:=[(0,1)]) (z:=[.int .i64 0]) (by kernel_rfl) (by kernel_rfl) l
theorem Z6q:Zra Tryz.prog 152 0=some (0,false,1):=by kernel_rfl
@[go_sem] theorem Zk9 (a:V):Zi Tryz.prog 152 a 0=Zcd (some (0,false,1)) a:=Ze Z6q a
theorem Zkq:Zka Tryz.prog 155=some (false,1):=by kernel_rfl
@[go_sem] theorem Zy8 (H:Heap) (a:V):Zga Tryz.prog H 155 a=Zrb (some (false,1)) (Zdg H a) a:=Zma Zkq H a
@[go_sem] theorem Tryz.bld157 (l:List (Nat × V)):Z9a Tryz.prog 157 l=(Zdb (Zuj [(0,1),(1,1)]) [.nils,.nilm] l).map .agg:=Zwa (P:=Tryz.prog) (t:=157) (tbl:=[(0,1),(1,1)]) (z:=[.nils,.nilm]) (by kernel_rfl) (by kernel_rfl) l
theorem Z5q:Zra Tryz.prog 157 0=some (0,false,1):=by kernel_rfl
@[go_sem] theorem Zj9 (a:V):Zi Tryz.prog 157 a 0=Zcd (some (0,false,1)) a:=Ze Z5q a
theorem Z4q:Zra Tryz.prog 157 1=some (1,false,1):=by kernel_rfl
@[go_sem] theorem Zi9 (a:V):Zi Tryz.prog 157 a 1=Zcd (some (1,false,1)) a:=Ze Z4q a
theorem Zjq:Zka Tryz.prog 169=some (false,1):=by kernel_rfl
@[go_sem] theorem Zx8 (H:Heap) (a:V):Zga Tryz.prog H 169 a=Zrb (some (false,1)) (Zdg H a) a:=Zma Zjq H a
@[go_sem] theorem Tryz.bld171 (l:List (Nat × V)):Z9a Tryz.prog 171 l=(Zdb (Zuj [(0,1),(1,1),(2,1),(3,1),(4,1)]) [.nils,.int .i64 0,.nils,.int .i64 0,.nilf] l).map .agg:=Zwa (P:=Tryz.prog) (t:=171) (tbl:=[(0,1),(1,1),(2,1),(3,1),(4,1)]) (z:=[.nils,.int .i64 0,.nils,.int .i64 0,.nilf]) (by kernel_rfl) (by kernel_rfl) l
theorem Z3q:Zra Tryz.prog 171 0=some (0,false,1):=by kernel_rfl
@[go_sem] theorem Zh9 (a:V):Zi Tryz.prog 171 a 0=Zcd (some (0,false,1)) a:=Ze Z3q a
theorem Z2q:Zra Tryz.prog 171 1=some (1,false,1):=by kernel_rfl
@[go_sem] theorem Zg9 (a:V):Zi Tryz.prog 171 a 1=Zcd (some (1,false,1)) a:=Ze Z2q a
theorem Z1q:Zra Tryz.prog 171 2=some (2,false,1):=by kernel_rfl
@[go_sem] theorem Zf9 (a:V):Zi Tryz.prog 171 a 2=Zcd (some (2,false,1)) a:=Ze Z1q a
theorem Z0q:Zra Tryz.prog 171 3=some (3,false,1):=by kernel_rfl
@[go_sem] theorem Ze9 (a:V):Zi Tryz.prog 171 a 3=Zcd (some (3,false,1)) a:=Ze Z0q a
theorem Zzq:Zra Tryz.prog 171 4=some (4,false,1):=by kernel_rfl
@[go_sem] theorem Zd9 (a:V):Zi Tryz.prog 171 a 4=Zcd (some (4,false,1)) a:=Ze Zzq a
theorem Ziq:Zka Tryz.prog 173=some (true,3):=by kernel_rfl
@[go_sem] theorem Zw8 (H:Heap) (a:V):Zga Tryz.prog H 173 a=Zrb (some (true,3)) (Zdg H a) a:=Zma Ziq H a
@[go_sem] theorem Tryz.sz173:Zqb Tryz.prog 173=some 3:=by kernel_rfl
@[go_sem] theorem Zo8:Zwd Tryz.prog 173=some [.int .u8 0,.int .u8 0,.int .u8 0]:=by kernel_rfl
@[go_sem] theorem Tryz.bld173 (l:List (Nat × V)):Z9a Tryz.prog 173 l=(Zdb (Zuj [(0,1),(1,1),(2,1)]) [.int .u8 0,.int .u8 0,.int .u8 0] l).map .agg:=Zwa (P:=Tryz.prog) (t:=173) (tbl:=[(0,1),(1,1),(2,1)]) (z:=[.int .u8 0,.int .u8 0,.int .u8 0]) (by kernel_rfl) (by kernel_rfl) l
theorem Zyq:Zra Tryz.prog 173 0=some (0,false,1):=by kernel_rfl
@[go_sem] theorem Zc9 (a:V):Zi Tryz.prog 173 a 0=Zcd (some (0,false,1)) a:=Ze Zyq a
theorem Zxq:Zra Tryz.prog 173 1=some (1,false,1):=by kernel_rfl
@[go_sem] theorem Zb9 (a:V):Zi Tryz.prog 173 a 1=Zcd (some (1,false,1)) a:=Ze Zxq a
theorem Zwq:Zra Tryz.prog 173 2=some (2,false,1):=by kernel_rfl
@[go_sem] theorem Za9 (a:V):Zi Tryz.prog 173 a 2=Zcd (some (2,false,1)) a:=Ze Zwq a
theorem Zhq:Zka Tryz.prog 175=some (true,4):=by kernel_rfl
@[go_sem] theorem Zv8 (H:Heap) (a:V):Zga Tryz.prog H 175 a=Zrb (some (true,4)) (Zdg H a) a:=Zma Zhq H a
@[go_sem] theorem Tryz.sz175:Zqb Tryz.prog 175=some 4:=by kernel_rfl
@[go_sem] theorem Zn8:Zwd Tryz.prog 175=some [.int .u8 0,.int .u8 0,.int .u8 0,.int .u8 0]:=by kernel_rfl
@[go_sem] theorem Tryz.bld175 (l:List (Nat × V)):Z9a Tryz.prog 175 l=(Zdb (Zuj [(0,3),(3,1)]) [.int .u8 0,.int .u8 0,.int .u8 0,.int .u8 0] l).map .agg:=Zwa (P:=Tryz.prog) (t:=175) (tbl:=[(0,3),(3,1)]) (z:=[.int .u8 0,.int .u8 0,.int .u8 0,.int .u8 0]) (by kernel_rfl) (by kernel_rfl) l
theorem Zvq:Zra Tryz.prog 175 0=some (0,true,3):=by kernel_rfl
@[go_sem] theorem Z98 (a:V):Zi Tryz.prog 175 a 0=Zcd (some (0,true,3)) a:=Ze Zvq a
theorem Zuq:Zra Tryz.prog 175 1=some (3,false,1):=by kernel_rfl
@[go_sem] theorem Z88 (a:V):Zi Tryz.prog 175 a 1=Zcd (some (3,false,1)) a:=Ze Zuq a
theorem Zgq:Zka Tryz.prog 176=some (true,92):=by kernel_rfl
@[go_sem] theorem Zu8 (H:Heap) (a:V):Zga Tryz.prog H 176 a=Zrb (some (true,92)) (Zdg H a) a:=Zma Zgq H a
@[go_sem] theorem Tryz.sz176:Zqb Tryz.prog 176=some 92:=by kernel_rfl
@[go_sem] theorem Zm8:Zwd Tryz.prog 176=some (.int .u8 0 :: .int .u8 0 :: .int .u8 0 :: .int .u8 0 :: .int .u8 0 :: .int .u8 0 :: .int .u8 0 :: .int .u8 0 :: .int .u8 0 :: .int .u8 0 :: .int .u8 0 :: .int .u8 0 :: .int .u8 0 :: .int .u8 0 :: .int .u8 0 :: .int .u8 0 :: .int .u8 0 :: .int .u8 0 :: .int .u8 0 :: .int .u8 0 :: .int .u8 0 :: .int .u8 0 :: .int .u8 0 :: .int .u8 0 :: .int .u8 0 :: .int .u8 0 :: .int .u8 0 :: .int .u8 0 :: .int .u8 0 :: .int .u8 0 :: .int .u8 0 :: .int .u8 0 :: .int .u8 0 :: .int .u8 0 :: .int .u8 0 :: .int .u8 0 :: .int .u8 0 :: .int .u8 0 :: .int .u8 0 :: .int .u8 0 :: .int .u8 0 :: .int .u8 0 :: .int .u8 0 :: .int .u8 0 :: .int .u8 0 :: .int .u8 0 :: .int .u8 0 :: .int .u8 0 :: .int .u8 0 :: .int .u8 0 :: .int .u8 0 :: .int .u8 0 :: .int .u8 0 :: .int .u8 0 :: .int .u8 0 :: .int .u8 0 :: .int .u8 0 :: .int .u8 0 :: .int .u8 0 :: .int .u8 0 :: .int .u8 0 :: .int .u8 0 :: .int .u8 0 :: .int .u8 0 :: .int .u8 0 :: .int .u8 0 :: .int .u8 0 :: .int .u8 0 :: .int .u8 0 :: .int .u8 0 :: .int .u8 0 :: .int .u8 0 :: .int .u8 0 :: .int .u8 0 :: .int .u8 0 :: .int .u8 0 :: .int .u8 0 :: .int .u8 0 :: .int .u8 0 :: .int .u8 0 :: .int .u8 0 :: .int .u8 0 :: .int .u8 0 :: .int .u8 0 :: .int .u8 0 :: .int .u8 0 :: .int .u8 0 :: .int .u8 0 :: .int .u8 0 :: .int .u8 0 :: .int .u8 0 :: .int .u8 0::[]):=by kernel_rfl
@[go_sem] theorem Tryz.ia176 (a:V) (ik:IntKind) (n:Int):Zda Tryz.prog 176 a (.int ik n)=idxA 23 4 true a ik n:=Zng (P:=Tryz.prog) (e:=175) (by kernel_rfl) (by kernel_rfl) (by kernel_rfl) (by decide) a ik n
@[go_sem] theorem Tryz.bla176 (l:List (Nat × V)):Z9a Tryz.prog 176 l=(Zdb (mulP 4) (.int .u8 0 :: .int .u8 0 :: .int .u8 0 :: .int .u8 0 :: .int .u8 0 :: .int .u8 0 :: .int .u8 0 :: .int .u8 0 :: .int .u8 0 :: .int .u8 0 :: .int .u8 0 :: .int .u8 0 :: .int .u8 0 :: .int .u8 0 :: .int .u8 0 :: .int .u8 0 :: .int .u8 0 :: .int .u8 0 :: .int .u8 0 :: .int .u8 0 :: .int .u8 0 :: .int .u8 0 :: .int .u8 0 :: .int .u8 0 :: .int .u8 0 :: .int .u8 0 :: .int .u8 0 :: .int .u8 0 :: .int .u8 0 :: .int .u8 0 :: .int .u8 0 :: .int .u8 0 :: .int .u8 0 :: .int .u8 0 :: .int .u8 0 :: .int .u8 0 :: .int .u8 0 :: .int .u8 0 :: .int .u8 0 :: .int .u8 0 :: .int .u8 0 :: .int .u8 0 :: .int .u8 0 :: .int .u8 0 :: .int .u8 0 :: .int .u8 0 :: .int .u8 0 :: .int .u8 0 :: .int .u8 0 :: .int .u8 0 :: .int .u8 0 :: .int .u8 0 :: .int .u8 0 :: .int .u8 0 :: .int .u8 0 :: .int .u8 0 :: .int .u8 0 :: .int .u8 0 :: .int .u8 0 :: .int .u8 0 :: .int .u8 0 :: .int .u8 0 :: .int .u8 0 :: .int .u8 0 :: .int .u8 0 :: .int .u8 0 :: .int .u8 0 :: .int .u8 0 :: .int .u8 0 :: .int .u8 0 :: .int .u8 0 :: .int .u8 0 :: .int .u8 0 :: .int .u8 0 :: .int .u8 0 :: .int .u8 0 :: .int .u8 0 :: .int .u8 0 :: .int .u8 0 :: .int .u8 0 :: .int .u8 0 :: .int .u8 0 :: .int .u8 0 :: .int .u8 0 :: .int .u8 0 :: .int .u8 0 :: .int .u8 0 :: .int .u8 0 :: .int .u8 0 :: .int .u8 0 :: .int .u8 0 :: .int .u8 0::[]) l).map .agg:=Z7p (P:=Tryz.prog) (N:=23) (e:=175) (by kernel_rfl) (by kernel_rfl) (by kernel_rfl) l
theorem Zfq:Zka Tryz.prog 179=some (true,93):=by kernel_rfl
@[go_sem] theorem Zt8 (H:Heap) (a:V):Zga Tryz.prog H 179 a=Zrb (some (true,93)) (Zdg H a) a:=Zma Zfq H a
@[go_sem] theorem Tryz.sz179:Zqb Tryz.prog 179=some 93:=by kernel_rfl
theorem Ztq:Zra Tryz.prog 179 0=some (0,true,92):=by kernel_rfl
@[go_sem] theorem Z78 (a:V):Zi Tryz.prog 179 a 0=Zcd (some (0,true,92)) a:=Ze Ztq a
theorem Zsq:Zra Tryz.prog 179 1=some (92,false,1):=by kernel_rfl
@[go_sem] theorem Z68 (a:V):Zi Tryz.prog 179 a 1=Zcd (some (92,false,1)) a:=Ze Zsq a
@[go_sem] theorem Tryz.sz182:Zqb Tryz.prog 182=some 3:=by kernel_rfl
@[go_sem] theorem Zl8:Zwd Tryz.prog 182=some [.int .u8 0,.str [],.nils]:=by kernel_rfl
@[go_sem] theorem Tryz.bld182 (l:List (Nat × V)):Z9a Tryz.prog 182 l=(Zdb (Zuj [(0,3)]) [.int .u8 0,.str [],.nils] l).map .agg:=Zwa (P:=Tryz.prog) (t:=182) (tbl:=[(0,3)]) (z:=[.int .u8 0,.str [],.nils]) (by kernel_rfl) (by kernel_rfl) l
theorem Zrq:Zra Tryz.prog 182 0=some (0,true,3):=by kernel_rfl
@[go_sem] theorem Z58 (a:V):Zi Tryz.prog 182 a 0=Zcd (some (0,true,3)) a:=Ze Zrq a
@[go_sem] theorem Tryz.sz187:Zqb Tryz.prog 187=some 3:=by kernel_rfl
@[go_sem] theorem Zk8:Zwd Tryz.prog 187=some [.int .u8 0,.str [],.nils]:=by kernel_rfl
@[go_sem] theorem Tryz.bld187 (l:List (Nat × V)):Z9a Tryz.prog 187 l=(Zdb (Zuj [(0,3)]) [.int .u8 0,.str [],.nils] l).map .agg:=Zwa (P:=Tryz.prog) (t:=187) (tbl:=[(0,3)]) (z:=[.int .u8 0,.str [],.nils]) (by kernel_rfl) (by kernel_rfl) l
theorem Zqq:Zra Tryz.prog 187 0=some (0,true,3):=by kernel_rfl
@[go_sem] theorem Z48 (a:V):Zi Tryz.prog 187 a 0=Zcd (some (0,true,3)) a:=Ze Zqq a
@[go_sem] theorem Tryz.ia212 (a:V) (ik:IntKind) (n:Int):Zda Tryz.prog 212 a (.int ik n)=idxA 14 1 false a ik n:=Zng (P:=Tryz.prog) (e:=9) (by kernel_rfl) (by kernel_rfl) (by kernel_rfl) (by decide) a ik n
theorem Zuk:Zvd Tryz.prog 249=some 3:=by kernel_rfl
@[go_sem] theorem Tryz.idx249 (a i:V):Zda Tryz.prog 249 a i=Z5s (some 3) a i:=Z8a Zuk a i
@[go_sem] theorem Tryz.len249 (a:V):Zvn Tryz.prog 249 a=Zmn true a:=Zyb Zuk a
@[go_sem] theorem Tryz.iv261 (l:List V) (ik:IntKind) (n:Int):Zrh Tryz.prog 261 (.agg l) (.int ik n)=if 0≤n∧n<(3:Nat) then Zxh false 1 l (n.toNat * 1) else none:=Zu6 (P:=Tryz.prog) (e:=9) (by kernel_rfl) (by kernel_rfl) (by kernel_rfl) (by decide) l ik n
@[go_sem] theorem Tryz.bla261 (l:List (Nat × V)):Z9a Tryz.prog 261 l=(Zdb (mulP 1) [.str [],.str [],.str []] l).map .agg:=Z7p (P:=Tryz.prog) (N:=3) (e:=9) (by kernel_rfl) (by kernel_rfl) (by kernel_rfl) l
@[go_sem] theorem Zx9 (k:IntKind) (n:Int):Z2p Tryz.prog 2 262 (.int k n)=some (.int .u64 (IntKind.wrap .u64 n)):=Z1p (P:=Tryz.prog) (s:=2) (d:=262) (by kernel_rfl) (by kernel_rfl) k n
@[go_sem] theorem Tryz.cv3_5 (k:IntKind) (n:Int):Z2p Tryz.prog 3 5 (.int k n)=some (.int .u8 (IntKind.wrap .u8 n)):=Z1p (P:=Tryz.prog) (s:=3) (d:=5) (by kernel_rfl) (by kernel_rfl) k n
@[go_sem] theorem Zy9 (k:IntKind) (n:Int):Z2p Tryz.prog 262 2 (.int k n)=some (.int .i64 (IntKind.wrap .i64 n)):=Z1p (P:=Tryz.prog) (s:=262) (d:=2) (by kernel_rfl) (by kernel_rfl) k n
end Go.Hs
end
