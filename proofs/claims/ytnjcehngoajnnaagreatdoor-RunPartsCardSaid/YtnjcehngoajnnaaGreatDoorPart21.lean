/- Part 21 of the proof of a statement of seat YtnjcehngoajnnaaGreatDoor: HsFactsG. -/
import Derived.Test.YtnjcehngoajnnaaGreatDoorPart20
import Derived.Test.YtnjcehngoajnnaaGreatDoorProg
import Derived.KernelRfl
set_option linter.unusedSimpArgs false
set_option linter.unusedVariables false
section
namespace Go.Hs
open Go.Proofs
theorem Zr1:Zra Tryz.prog 2=some (false,1):=by kernel_rfl
@[go_sem] theorem Tryz.load2 (H:Heap) (a:V):Zua Tryz.prog H 2 a=Z6b (some (false,1)) (Zug H a) a:=Zya Zr1 H a
@[go_sem] theorem Tryz.sz2:Zcc Tryz.prog 2=some 1:=by kernel_rfl
theorem Zq1:Zra Tryz.prog 3=some (false,1):=by kernel_rfl
@[go_sem] theorem Tryz.load3 (H:Heap) (a:V):Zua Tryz.prog H 3 a=Z6b (some (false,1)) (Zug H a) a:=Zya Zq1 H a
@[go_sem] theorem Tryz.sz3:Zcc Tryz.prog 3=some 1:=by kernel_rfl
theorem Zp1:Zra Tryz.prog 4=some (false,1):=by kernel_rfl
@[go_sem] theorem Tryz.load4 (H:Heap) (a:V):Zua Tryz.prog H 4 a=Z6b (some (false,1)) (Zug H a) a:=Zya Zp1 H a
@[go_sem] theorem Tryz.eqb4 (a b:Bool):Zxh Tryz.prog .eql 4 (.bool a) (.bool b)=some (.bool (a==b)):=(Z5x (P:=Tryz.prog) (by kernel_rfl) a b).1
@[go_sem] theorem Tryz.neb4 (a b:Bool):Zxh Tryz.prog .neq 4 (.bool a) (.bool b)=some (.bool (a != b)):=(Z5x (P:=Tryz.prog) (by kernel_rfl) a b).2
theorem Zo1:Zra Tryz.prog 5=some (false,1):=by kernel_rfl
@[go_sem] theorem Tryz.load5 (H:Heap) (a:V):Zua Tryz.prog H 5 a=Z6b (some (false,1)) (Zug H a) a:=Zya Zo1 H a
@[go_sem] theorem Tryz.sz5:Zcc Tryz.prog 5=some 1:=by kernel_rfl
theorem Zn1:Zra Tryz.prog 9=some (false,1):=by kernel_rfl
@[go_sem] theorem Tryz.load9 (H:Heap) (a:V):Zua Tryz.prog H 9 a=Z6b (some (false,1)) (Zug H a) a:=Zya Zn1 H a
@[go_sem] theorem Tryz.sz9:Zcc Tryz.prog 9=some 1:=by kernel_rfl
theorem Zvq:Z10 Tryz.prog 9=true:=by kernel_rfl
@[go_sem] theorem Tryz.len9 (a:V):Zwn Tryz.prog 9 a=Zjn false a:=Zkba Zvq a
@[go_sem] theorem Tryz.ixs9 (s:List UInt8) (k:IntKind) (n:Int):Z4j Tryz.prog 9 (.str s) (.int k n)=if 0≤n then (s[n.toNat]?).map fun b => .int .u8 b.toNat else none:=Z74 Zvq s k n
@[go_sem] theorem Tryz.sls9 (s:List UInt8) (lo hi:Option V):Zgg Tryz.prog 9 (.str s) lo hi none=slJ (Zma 0 lo) (Zma s.length hi) fun i j=>if i≤j∧j≤s.length then some (.str ((s.drop i).take (j-i))) else none:=Z53 Zvq s lo hi
theorem Zuy:Zra Tryz.prog 22=some (false,1):=by kernel_rfl
@[go_sem] theorem Tryz.load22 (H:Heap) (a:V):Zua Tryz.prog H 22 a=Z6b (some (false,1)) (Zug H a) a:=Zya Zuy H a
@[go_sem] theorem Tryz.sz22:Zcc Tryz.prog 22=some 1:=by kernel_rfl
theorem Z9q:Z5d Tryz.prog 22=some 6:=by kernel_rfl
@[go_sem] theorem Tryz.idx22 (a i:V):Zja Tryz.prog 22 a i=Znr (some 6) a i:=Z5a Z9q a i
@[go_sem] theorem Tryz.len22 (a:V):Zwn Tryz.prog 22 a=Zjn true a:=Zvb Z9q a
@[go_sem] theorem Tryz.bs22 (n:Nat) (l:List (Nat × V)):Zed Tryz.prog 22 n l=bsK 6 [.int .u8 0,.int .i64 0,.str [],.int .i64 0,.int .i64 0,.int .i64 0] n l:=Zoc (P:=Tryz.prog) (t:=22) (e:=59) (m:=6) (z:=[.int .u8 0,.int .i64 0,.str [],.int .i64 0,.int .i64 0,.int .i64 0]) (by kernel_rfl) (by kernel_rfl) (by kernel_rfl) rfl n l
theorem Z15:Z4l Tryz.prog [22,22]=some (6,56):=by kernel_rfl
@[go_sem] theorem Tryz.appc22 (E:Ent) (ops:Array Oper) (Q:AS→Prop) (rest:List Oper) (e:Nat) (τ : Nat→V) (H:Heap) (a b:V):Zf1 Tryz.prog E ops Q rest e τ H [22,22] a b=Zxs Tryz.prog E ops Q rest e τ H 6 56 a (Zdb H 6 b) (obS H a):=Z5h ops Z15 e a b
theorem Zty:Zra Tryz.prog 24=some (true,1):=by kernel_rfl
@[go_sem] theorem Tryz.load24 (H:Heap) (a:V):Zua Tryz.prog H 24 a=Z6b (some (true,1)) (Zug H a) a:=Zya Zty H a
@[go_sem] theorem Tryz.sz24:Zcc Tryz.prog 24=some 1:=by kernel_rfl
@[go_sem] theorem Tryz.zero24:Zhe Tryz.prog 24=some [.nils]:=by kernel_rfl
@[go_sem] theorem Tryz.bld24 (l:List (Nat × V)):Zkb Tryz.prog 24 l=(Ztb (Z9i [(0,1)]) [.nils] l).map .agg:=Z0a (P:=Tryz.prog) (t:=24) (tbl:=[(0,1)]) (z:=[.nils]) (by kernel_rfl) (by kernel_rfl) l
theorem Zpz:Zpa Tryz.prog 24 0=some (0,false,1):=by kernel_rfl
@[go_sem] theorem Tryz.fa24_0 (a:V):Zk Tryz.prog 24 a 0=Zuc (some (0,false,1)) a:=Zh Zpz a
theorem Zsy:Zra Tryz.prog 25=some (false,1):=by kernel_rfl
@[go_sem] theorem Tryz.load25 (H:Heap) (a:V):Zua Tryz.prog H 25 a=Z6b (some (false,1)) (Zug H a) a:=Zya Zsy H a
theorem Zm9:Zrm Tryz.prog 25=2:=by kernel_rfl
@[go_sem] theorem Tryz.eqn25 (a:V):Zxh Tryz.prog .eql 25 a .nils=(nilK 2 a).map .bool:=(Zfca _ _ Zm9 (by simp) a).1
theorem Z8q:Z5d Tryz.prog 25=some 2:=by kernel_rfl
@[go_sem] theorem Tryz.idx25 (a i:V):Zja Tryz.prog 25 a i=Znr (some 2) a i:=Z5a Z8q a i
@[go_sem] theorem Tryz.len25 (a:V):Zwn Tryz.prog 25 a=Zjn true a:=Zvb Z8q a
@[go_sem] theorem Tryz.bs25 (n:Nat) (l:List (Nat × V)):Zed Tryz.prog 25 n l=bsK 2 [.str [],.int .i64 0] n l:=Zoc (P:=Tryz.prog) (t:=25) (e:=55) (m:=2) (z:=[.str [],.int .i64 0]) (by kernel_rfl) (by kernel_rfl) (by kernel_rfl) rfl n l
theorem Z05:Z4l Tryz.prog [25,25]=some (2,24):=by kernel_rfl
@[go_sem] theorem Tryz.appc25 (E:Ent) (ops:Array Oper) (Q:AS→Prop) (rest:List Oper) (e:Nat) (τ : Nat→V) (H:Heap) (a b:V):Zf1 Tryz.prog E ops Q rest e τ H [25,25] a b=Zxs Tryz.prog E ops Q rest e τ H 2 24 a (Zdb H 2 b) (obS H a):=Z5h ops Z05 e a b
theorem Zry:Zra Tryz.prog 30=some (false,1):=by kernel_rfl
@[go_sem] theorem Tryz.load30 (H:Heap) (a:V):Zua Tryz.prog H 30 a=Z6b (some (false,1)) (Zug H a) a:=Zya Zry H a
@[go_sem] theorem Tryz.sz30:Zcc Tryz.prog 30=some 1:=by kernel_rfl
@[go_sem] theorem Tryz.zero30:Zhe Tryz.prog 30=some [.int .i64 0]:=by kernel_rfl
theorem Zqy:Zra Tryz.prog 34=some (true,3):=by kernel_rfl
@[go_sem] theorem Tryz.load34 (H:Heap) (a:V):Zua Tryz.prog H 34 a=Z6b (some (true,3)) (Zug H a) a:=Zya Zqy H a
@[go_sem] theorem Tryz.sz34:Zcc Tryz.prog 34=some 3:=by kernel_rfl
@[go_sem] theorem Tryz.zero34:Zhe Tryz.prog 34=some [.int .u8 0,.int .i64 0,.bool false]:=by kernel_rfl
@[go_sem] theorem Tryz.bld34 (l:List (Nat × V)):Zkb Tryz.prog 34 l=(Ztb (Z9i [(0,1),(1,1),(2,1)]) [.int .u8 0,.int .i64 0,.bool false] l).map .agg:=Z0a (P:=Tryz.prog) (t:=34) (tbl:=[(0,1),(1,1),(2,1)]) (z:=[.int .u8 0,.int .i64 0,.bool false]) (by kernel_rfl) (by kernel_rfl) l
theorem Zoz:Zpa Tryz.prog 34 0=some (0,false,1):=by kernel_rfl
@[go_sem] theorem Tryz.fa34_0 (a:V):Zk Tryz.prog 34 a 0=Zuc (some (0,false,1)) a:=Zh Zoz a
theorem Zrn:Zpa Tryz.prog 34 1=some (1,false,1):=by kernel_rfl
@[go_sem] theorem Tryz.fa34_1 (a:V):Zk Tryz.prog 34 a 1=Zuc (some (1,false,1)) a:=Zh Zrn a
@[go_sem] theorem Tryz.fv34_1 (l:List V):Z0l Tryz.prog 34 (.agg l) 1=Zyj false 1 l 1:=Z4t Zrn l
theorem Znz:Zpa Tryz.prog 34 2=some (2,false,1):=by kernel_rfl
@[go_sem] theorem Tryz.fv34_2 (l:List V):Z0l Tryz.prog 34 (.agg l) 2=Zyj false 1 l 2:=Z4t Znz l
@[go_sem] theorem Tryz.eqls34 (x0 y0:Int) (x1 y1:Int) (x2 y2:Bool):Zxh Tryz.prog .eql 34 (.agg [.int .u8 x0,.int .i64 x1,.bool x2]) (.agg [.int .u8 y0,.int .i64 y1,.bool y2])=some (.bool (x0==y0 && (x1==y1 && (x2==y2 && true)))):=(Z3l (P:=Tryz.prog) (t:=34) (by kernel_rfl) (Zqj (Zqj (Zsx Zgo x2 y2) .i64 x1 y1) .u8 x0 y0)).1
theorem Zpy:Zra Tryz.prog 39=some (false,1):=by kernel_rfl
@[go_sem] theorem Tryz.load39 (H:Heap) (a:V):Zua Tryz.prog H 39 a=Z6b (some (false,1)) (Zug H a) a:=Zya Zpy H a
@[go_sem] theorem Tryz.sz39:Zcc Tryz.prog 39=some 1:=by kernel_rfl
theorem Z7q:Z5d Tryz.prog 39=some 6:=by kernel_rfl
@[go_sem] theorem Tryz.idx39 (a i:V):Zja Tryz.prog 39 a i=Znr (some 6) a i:=Z5a Z7q a i
@[go_sem] theorem Tryz.len39 (a:V):Zwn Tryz.prog 39 a=Zjn true a:=Zvb Z7q a
@[go_sem] theorem Tryz.bs39 (n:Nat) (l:List (Nat × V)):Zed Tryz.prog 39 n l=bsK 6 [.int .u8 0,.int .i64 0,.str [],.int .i64 0,.int .i64 0,.int .i64 0] n l:=Zoc (P:=Tryz.prog) (t:=39) (e:=109) (m:=6) (z:=[.int .u8 0,.int .i64 0,.str [],.int .i64 0,.int .i64 0,.int .i64 0]) (by kernel_rfl) (by kernel_rfl) (by kernel_rfl) rfl n l
theorem Zz5:Z4l Tryz.prog [39,39]=some (6,56):=by kernel_rfl
@[go_sem] theorem Tryz.appc39 (E:Ent) (ops:Array Oper) (Q:AS→Prop) (rest:List Oper) (e:Nat) (τ : Nat→V) (H:Heap) (a b:V):Zf1 Tryz.prog E ops Q rest e τ H [39,39] a b=Zxs Tryz.prog E ops Q rest e τ H 6 56 a (Zdb H 6 b) (obS H a):=Z5h ops Zz5 e a b
theorem Zoy:Zra Tryz.prog 41=some (false,1):=by kernel_rfl
@[go_sem] theorem Tryz.load41 (H:Heap) (a:V):Zua Tryz.prog H 41 a=Z6b (some (false,1)) (Zug H a) a:=Zya Zoy H a
@[go_sem] theorem Tryz.sz41:Zcc Tryz.prog 41=some 1:=by kernel_rfl
theorem Z6q:Z5d Tryz.prog 41=some 2:=by kernel_rfl
@[go_sem] theorem Tryz.idx41 (a i:V):Zja Tryz.prog 41 a i=Znr (some 2) a i:=Z5a Z6q a i
@[go_sem] theorem Tryz.len41 (a:V):Zwn Tryz.prog 41 a=Zjn true a:=Zvb Z6q a
@[go_sem] theorem Tryz.bs41 (n:Nat) (l:List (Nat × V)):Zed Tryz.prog 41 n l=bsK 2 [.str [],.int .i64 0] n l:=Zoc (P:=Tryz.prog) (t:=41) (e:=80) (m:=2) (z:=[.str [],.int .i64 0]) (by kernel_rfl) (by kernel_rfl) (by kernel_rfl) rfl n l
theorem Zy5:Z4l Tryz.prog [41,41]=some (2,24):=by kernel_rfl
@[go_sem] theorem Tryz.appc41 (E:Ent) (ops:Array Oper) (Q:AS→Prop) (rest:List Oper) (e:Nat) (τ : Nat→V) (H:Heap) (a b:V):Zf1 Tryz.prog E ops Q rest e τ H [41,41] a b=Zxs Tryz.prog E ops Q rest e τ H 2 24 a (Zdb H 2 b) (obS H a):=Z5h ops Zy5 e a b
theorem Zny:Zra Tryz.prog 43=some (true,3):=by kernel_rfl
@[go_sem] theorem Tryz.load43 (H:Heap) (a:V):Zua Tryz.prog H 43 a=Z6b (some (true,3)) (Zug H a) a:=Zya Zny H a
@[go_sem] theorem Tryz.sz43:Zcc Tryz.prog 43=some 3:=by kernel_rfl
@[go_sem] theorem Tryz.zero43:Zhe Tryz.prog 43=some [.int .u8 0,.int .i64 0,.bool false]:=by kernel_rfl
@[go_sem] theorem Tryz.bld43 (l:List (Nat × V)):Zkb Tryz.prog 43 l=(Ztb (Z9i [(0,1),(1,1),(2,1)]) [.int .u8 0,.int .i64 0,.bool false] l).map .agg:=Z0a (P:=Tryz.prog) (t:=43) (tbl:=[(0,1),(1,1),(2,1)]) (z:=[.int .u8 0,.int .i64 0,.bool false]) (by kernel_rfl) (by kernel_rfl) l
theorem Zmz:Zpa Tryz.prog 43 0=some (0,false,1):=by kernel_rfl
@[go_sem] theorem Tryz.fa43_0 (a:V):Zk Tryz.prog 43 a 0=Zuc (some (0,false,1)) a:=Zh Zmz a
theorem Zlz:Zpa Tryz.prog 43 1=some (1,false,1):=by kernel_rfl
@[go_sem] theorem Tryz.fa43_1 (a:V):Zk Tryz.prog 43 a 1=Zuc (some (1,false,1)) a:=Zh Zlz a
theorem Zkz:Zpa Tryz.prog 43 2=some (2,false,1):=by kernel_rfl
@[go_sem] theorem Tryz.fa43_2 (a:V):Zk Tryz.prog 43 a 2=Zuc (some (2,false,1)) a:=Zh Zkz a
@[go_sem] theorem Tryz.eqls43 (x0 y0:Int) (x1 y1:Int) (x2 y2:Bool):Zxh Tryz.prog .eql 43 (.agg [.int .u8 x0,.int .i64 x1,.bool x2]) (.agg [.int .u8 y0,.int .i64 y1,.bool y2])=some (.bool (x0==y0 && (x1==y1 && (x2==y2 && true)))):=(Z3l (P:=Tryz.prog) (t:=43) (by kernel_rfl) (Zqj (Zqj (Zsx Zgo x2 y2) .i64 x1 y1) .u8 x0 y0)).1
theorem Z5q:Z5d Tryz.prog 53=some 1:=by kernel_rfl
@[go_sem] theorem Tryz.idx53 (a i:V):Zja Tryz.prog 53 a i=Znr (some 1) a i:=Z5a Z5q a i
@[go_sem] theorem Tryz.len53 (a:V):Zwn Tryz.prog 53 a=Zjn true a:=Zvb Z5q a
@[go_sem] theorem Tryz.bs53 (n:Nat) (l:List (Nat × V)):Zed Tryz.prog 53 n l=bsK 1 [.str []] n l:=Zoc (P:=Tryz.prog) (t:=53) (e:=9) (m:=1) (z:=[.str []]) (by kernel_rfl) (by kernel_rfl) (by kernel_rfl) rfl n l
theorem Zmy:Zra Tryz.prog 55=some (true,2):=by kernel_rfl
@[go_sem] theorem Tryz.load55 (H:Heap) (a:V):Zua Tryz.prog H 55 a=Z6b (some (true,2)) (Zug H a) a:=Zya Zmy H a
@[go_sem] theorem Tryz.bld55 (l:List (Nat × V)):Zkb Tryz.prog 55 l=(Ztb (Z9i [(0,1),(1,1)]) [.str [],.int .i64 0] l).map .agg:=Z0a (P:=Tryz.prog) (t:=55) (tbl:=[(0,1),(1,1)]) (z:=[.str [],.int .i64 0]) (by kernel_rfl) (by kernel_rfl) l
theorem Zjz:Zpa Tryz.prog 55 0=some (0,false,1):=by kernel_rfl
@[go_sem] theorem Tryz.fa55_0 (a:V):Zk Tryz.prog 55 a 0=Zuc (some (0,false,1)) a:=Zh Zjz a
theorem Ziz:Zpa Tryz.prog 55 1=some (1,false,1):=by kernel_rfl
@[go_sem] theorem Tryz.fa55_1 (a:V):Zk Tryz.prog 55 a 1=Zuc (some (1,false,1)) a:=Zh Ziz a
theorem Zly:Zra Tryz.prog 59=some (true,6):=by kernel_rfl
@[go_sem] theorem Tryz.load59 (H:Heap) (a:V):Zua Tryz.prog H 59 a=Z6b (some (true,6)) (Zug H a) a:=Zya Zly H a
@[go_sem] theorem Tryz.sz59:Zcc Tryz.prog 59=some 6:=by kernel_rfl
@[go_sem] theorem Tryz.zero59:Zhe Tryz.prog 59=some [.int .u8 0,.int .i64 0,.str [],.int .i64 0,.int .i64 0,.int .i64 0]:=by kernel_rfl
@[go_sem] theorem Tryz.bld59 (l:List (Nat × V)):Zkb Tryz.prog 59 l=(Ztb (Z9i [(0,1),(1,1),(2,1),(3,1),(4,1),(5,1)]) [.int .u8 0,.int .i64 0,.str [],.int .i64 0,.int .i64 0,.int .i64 0] l).map .agg:=Z0a (P:=Tryz.prog) (t:=59) (tbl:=[(0,1),(1,1),(2,1),(3,1),(4,1),(5,1)]) (z:=[.int .u8 0,.int .i64 0,.str [],.int .i64 0,.int .i64 0,.int .i64 0]) (by kernel_rfl) (by kernel_rfl) l
theorem Zhz:Zpa Tryz.prog 59 0=some (0,false,1):=by kernel_rfl
@[go_sem] theorem Tryz.fa59_0 (a:V):Zk Tryz.prog 59 a 0=Zuc (some (0,false,1)) a:=Zh Zhz a
theorem Zgz:Zpa Tryz.prog 59 1=some (1,false,1):=by kernel_rfl
@[go_sem] theorem Tryz.fa59_1 (a:V):Zk Tryz.prog 59 a 1=Zuc (some (1,false,1)) a:=Zh Zgz a
theorem Zfz:Zpa Tryz.prog 59 2=some (2,false,1):=by kernel_rfl
@[go_sem] theorem Tryz.fa59_2 (a:V):Zk Tryz.prog 59 a 2=Zuc (some (2,false,1)) a:=Zh Zfz a
theorem Zez:Zpa Tryz.prog 59 3=some (3,false,1):=by kernel_rfl
@[go_sem] theorem Tryz.fa59_3 (a:V):Zk Tryz.prog 59 a 3=Zuc (some (3,false,1)) a:=Zh Zez a
theorem Zdz:Zpa Tryz.prog 59 4=some (4,false,1):=by kernel_rfl
@[go_sem] theorem Tryz.fa59_4 (a:V):Zk Tryz.prog 59 a 4=Zuc (some (4,false,1)) a:=Zh Zdz a
theorem Zcz:Zpa Tryz.prog 59 5=some (5,false,1):=by kernel_rfl
@[go_sem] theorem Tryz.fa59_5 (a:V):Zk Tryz.prog 59 a 5=Zuc (some (5,false,1)) a:=Zh Zcz a
theorem Zky:Zra Tryz.prog 61=some (false,1):=by kernel_rfl
@[go_sem] theorem Tryz.load61 (H:Heap) (a:V):Zua Tryz.prog H 61 a=Z6b (some (false,1)) (Zug H a) a:=Zya Zky H a
@[go_sem] theorem Tryz.sz61:Zcc Tryz.prog 61=some 1:=by kernel_rfl
theorem Zyk:Z5d Tryz.prog 61=some 3:=by kernel_rfl
@[go_sem] theorem Tryz.idx61 (a i:V):Zja Tryz.prog 61 a i=Znr (some 3) a i:=Z5a Zyk a i
@[go_sem] theorem Tryz.len61 (a:V):Zwn Tryz.prog 61 a=Zjn true a:=Zvb Zyk a
@[go_sem] theorem Tryz.sl61 (a:V) (lo hi:Option V):Zgg Tryz.prog 61 a lo hi none=slK 3 a lo hi:=Z9k Zyk a lo hi
@[go_sem] theorem Tryz.bs61 (n:Nat) (l:List (Nat × V)):Zed Tryz.prog 61 n l=bsK 3 [.int .u8 0,.str [],.nils] n l:=Zoc (P:=Tryz.prog) (t:=61) (e:=92) (m:=3) (z:=[.int .u8 0,.str [],.nils]) (by kernel_rfl) (by kernel_rfl) (by kernel_rfl) rfl n l
theorem Zx5:Z4l Tryz.prog [61,61]=some (3,48):=by kernel_rfl
@[go_sem] theorem Tryz.appc61 (E:Ent) (ops:Array Oper) (Q:AS→Prop) (rest:List Oper) (e:Nat) (τ : Nat→V) (H:Heap) (a b:V):Zf1 Tryz.prog E ops Q rest e τ H [61,61] a b=Zxs Tryz.prog E ops Q rest e τ H 3 48 a (Zdb H 3 b) (obS H a):=Z5h ops Zx5 e a b
theorem Zjy:Zra Tryz.prog 63=some (true,1):=by kernel_rfl
@[go_sem] theorem Tryz.load63 (H:Heap) (a:V):Zua Tryz.prog H 63 a=Z6b (some (true,1)) (Zug H a) a:=Zya Zjy H a
@[go_sem] theorem Tryz.sz63:Zcc Tryz.prog 63=some 1:=by kernel_rfl
@[go_sem] theorem Tryz.zero63:Zhe Tryz.prog 63=some [.nils]:=by kernel_rfl
@[go_sem] theorem Tryz.bld63 (l:List (Nat × V)):Zkb Tryz.prog 63 l=(Ztb (Z9i [(0,1)]) [.nils] l).map .agg:=Z0a (P:=Tryz.prog) (t:=63) (tbl:=[(0,1)]) (z:=[.nils]) (by kernel_rfl) (by kernel_rfl) l
theorem Zbz:Zpa Tryz.prog 63 0=some (0,false,1):=by kernel_rfl
@[go_sem] theorem Tryz.fa63_0 (a:V):Zk Tryz.prog 63 a 0=Zuc (some (0,false,1)) a:=Zh Zbz a
theorem Ziy:Zra Tryz.prog 65=some (false,1):=by kernel_rfl
@[go_sem] theorem Tryz.load65 (H:Heap) (a:V):Zua Tryz.prog H 65 a=Z6b (some (false,1)) (Zug H a) a:=Zya Ziy H a
@[go_sem] theorem Tryz.sz65:Zcc Tryz.prog 65=some 1:=by kernel_rfl
theorem Z4q:Z5d Tryz.prog 65=some 2:=by kernel_rfl
@[go_sem] theorem Tryz.idx65 (a i:V):Zja Tryz.prog 65 a i=Znr (some 2) a i:=Z5a Z4q a i
@[go_sem] theorem Tryz.len65 (a:V):Zwn Tryz.prog 65 a=Zjn true a:=Zvb Z4q a
@[go_sem] theorem Tryz.bs65 (n:Nat) (l:List (Nat × V)):Zed Tryz.prog 65 n l=bsK 2 [.str [],.int .i64 0] n l:=Zoc (P:=Tryz.prog) (t:=65) (e:=129) (m:=2) (z:=[.str [],.int .i64 0]) (by kernel_rfl) (by kernel_rfl) (by kernel_rfl) rfl n l
theorem Zw5:Z4l Tryz.prog [65,65]=some (2,24):=by kernel_rfl
@[go_sem] theorem Tryz.appc65 (E:Ent) (ops:Array Oper) (Q:AS→Prop) (rest:List Oper) (e:Nat) (τ : Nat→V) (H:Heap) (a b:V):Zf1 Tryz.prog E ops Q rest e τ H [65,65] a b=Zxs Tryz.prog E ops Q rest e τ H 2 24 a (Zdb H 2 b) (obS H a):=Z5h ops Zw5 e a b
theorem Zhy:Zra Tryz.prog 67=some (true,3):=by kernel_rfl
@[go_sem] theorem Tryz.load67 (H:Heap) (a:V):Zua Tryz.prog H 67 a=Z6b (some (true,3)) (Zug H a) a:=Zya Zhy H a
@[go_sem] theorem Tryz.sz67:Zcc Tryz.prog 67=some 3:=by kernel_rfl
@[go_sem] theorem Tryz.zero67:Zhe Tryz.prog 67=some [.nils,.nils,.int .i64 0]:=by kernel_rfl
@[go_sem] theorem Tryz.bld67 (l:List (Nat × V)):Zkb Tryz.prog 67 l=(Ztb (Z9i [(0,1),(1,1),(2,1)]) [.nils,.nils,.int .i64 0] l).map .agg:=Z0a (P:=Tryz.prog) (t:=67) (tbl:=[(0,1),(1,1),(2,1)]) (z:=[.nils,.nils,.int .i64 0]) (by kernel_rfl) (by kernel_rfl) l
theorem Zaz:Zpa Tryz.prog 67 0=some (0,false,1):=by kernel_rfl
@[go_sem] theorem Tryz.fa67_0 (a:V):Zk Tryz.prog 67 a 0=Zuc (some (0,false,1)) a:=Zh Zaz a
theorem Z9y:Zpa Tryz.prog 67 1=some (1,false,1):=by kernel_rfl
@[go_sem] theorem Tryz.fa67_1 (a:V):Zk Tryz.prog 67 a 1=Zuc (some (1,false,1)) a:=Zh Z9y a
theorem Z8y:Zpa Tryz.prog 67 2=some (2,false,1):=by kernel_rfl
@[go_sem] theorem Tryz.fa67_2 (a:V):Zk Tryz.prog 67 a 2=Zuc (some (2,false,1)) a:=Zh Z8y a
theorem Z3q:Z5d Tryz.prog 70=some 3:=by kernel_rfl
@[go_sem] theorem Tryz.idx70 (a i:V):Zja Tryz.prog 70 a i=Znr (some 3) a i:=Z5a Z3q a i
@[go_sem] theorem Tryz.len70 (a:V):Zwn Tryz.prog 70 a=Zjn true a:=Zvb Z3q a
@[go_sem] theorem Tryz.bs70 (n:Nat) (l:List (Nat × V)):Zed Tryz.prog 70 n l=bsK 3 [.int .u8 0,.str [],.nils] n l:=Zoc (P:=Tryz.prog) (t:=70) (e:=128) (m:=3) (z:=[.int .u8 0,.str [],.nils]) (by kernel_rfl) (by kernel_rfl) (by kernel_rfl) rfl n l
theorem Zv5:Z4l Tryz.prog [70,70]=some (3,48):=by kernel_rfl
@[go_sem] theorem Tryz.appc70 (E:Ent) (ops:Array Oper) (Q:AS→Prop) (rest:List Oper) (e:Nat) (τ : Nat→V) (H:Heap) (a b:V):Zf1 Tryz.prog E ops Q rest e τ H [70,70] a b=Zxs Tryz.prog E ops Q rest e τ H 3 48 a (Zdb H 3 b) (obS H a):=Z5h ops Zv5 e a b
theorem Zgy:Zra Tryz.prog 72=some (false,1):=by kernel_rfl
@[go_sem] theorem Tryz.load72 (H:Heap) (a:V):Zua Tryz.prog H 72 a=Z6b (some (false,1)) (Zug H a) a:=Zya Zgy H a
@[go_sem] theorem Tryz.sz72:Zcc Tryz.prog 72=some 1:=by kernel_rfl
theorem Z2q:Z5d Tryz.prog 72=some 2:=by kernel_rfl
@[go_sem] theorem Tryz.idx72 (a i:V):Zja Tryz.prog 72 a i=Znr (some 2) a i:=Z5a Z2q a i
@[go_sem] theorem Tryz.len72 (a:V):Zwn Tryz.prog 72 a=Zjn true a:=Zvb Z2q a
@[go_sem] theorem Tryz.bs72 (n:Nat) (l:List (Nat × V)):Zed Tryz.prog 72 n l=bsK 2 [.str [],.int .i64 0] n l:=Zoc (P:=Tryz.prog) (t:=72) (e:=79) (m:=2) (z:=[.str [],.int .i64 0]) (by kernel_rfl) (by kernel_rfl) (by kernel_rfl) rfl n l
theorem Zu5:Z4l Tryz.prog [72,72]=some (2,24):=by kernel_rfl
@[go_sem] theorem Tryz.appc72 (E:Ent) (ops:Array Oper) (Q:AS→Prop) (rest:List Oper) (e:Nat) (τ : Nat→V) (H:Heap) (a b:V):Zf1 Tryz.prog E ops Q rest e τ H [72,72] a b=Zxs Tryz.prog E ops Q rest e τ H 2 24 a (Zdb H 2 b) (obS H a):=Z5h ops Zu5 e a b
theorem Zfy:Zra Tryz.prog 74=some (true,3):=by kernel_rfl
@[go_sem] theorem Tryz.load74 (H:Heap) (a:V):Zua Tryz.prog H 74 a=Z6b (some (true,3)) (Zug H a) a:=Zya Zfy H a
@[go_sem] theorem Tryz.sz74:Zcc Tryz.prog 74=some 3:=by kernel_rfl
@[go_sem] theorem Tryz.zero74:Zhe Tryz.prog 74=some [.nils,.nils,.int .i64 0]:=by kernel_rfl
@[go_sem] theorem Tryz.bld74 (l:List (Nat × V)):Zkb Tryz.prog 74 l=(Ztb (Z9i [(0,1),(1,1),(2,1)]) [.nils,.nils,.int .i64 0] l).map .agg:=Z0a (P:=Tryz.prog) (t:=74) (tbl:=[(0,1),(1,1),(2,1)]) (z:=[.nils,.nils,.int .i64 0]) (by kernel_rfl) (by kernel_rfl) l
theorem Z7y:Zpa Tryz.prog 74 0=some (0,false,1):=by kernel_rfl
@[go_sem] theorem Tryz.fa74_0 (a:V):Zk Tryz.prog 74 a 0=Zuc (some (0,false,1)) a:=Zh Z7y a
theorem Z6y:Zpa Tryz.prog 74 1=some (1,false,1):=by kernel_rfl
@[go_sem] theorem Tryz.fa74_1 (a:V):Zk Tryz.prog 74 a 1=Zuc (some (1,false,1)) a:=Zh Z6y a
theorem Z5y:Zpa Tryz.prog 74 2=some (2,false,1):=by kernel_rfl
@[go_sem] theorem Tryz.fa74_2 (a:V):Zk Tryz.prog 74 a 2=Zuc (some (2,false,1)) a:=Zh Z5y a
theorem Zey:Zra Tryz.prog 79=some (true,2):=by kernel_rfl
@[go_sem] theorem Tryz.load79 (H:Heap) (a:V):Zua Tryz.prog H 79 a=Z6b (some (true,2)) (Zug H a) a:=Zya Zey H a
@[go_sem] theorem Tryz.bld79 (l:List (Nat × V)):Zkb Tryz.prog 79 l=(Ztb (Z9i [(0,1),(1,1)]) [.str [],.int .i64 0] l).map .agg:=Z0a (P:=Tryz.prog) (t:=79) (tbl:=[(0,1),(1,1)]) (z:=[.str [],.int .i64 0]) (by kernel_rfl) (by kernel_rfl) l
theorem Z4y:Zpa Tryz.prog 79 0=some (0,false,1):=by kernel_rfl
@[go_sem] theorem Tryz.fa79_0 (a:V):Zk Tryz.prog 79 a 0=Zuc (some (0,false,1)) a:=Zh Z4y a
theorem Z3y:Zpa Tryz.prog 79 1=some (1,false,1):=by kernel_rfl
@[go_sem] theorem Tryz.fa79_1 (a:V):Zk Tryz.prog 79 a 1=Zuc (some (1,false,1)) a:=Zh Z3y a
@[go_sem] theorem Tryz.neqs79 (x0 y0:List UInt8) (x1 y1:Int):Zxh Tryz.prog .neq 79 (.agg [.str x0,.int .i64 x1]) (.agg [.str y0,.int .i64 y1])=some (.bool (!(x0==y0 && (x1==y1 && true)))):=(Z3l (P:=Tryz.prog) (t:=79) (by kernel_rfl) (Ze3 (Zqj Zgo .i64 x1 y1) x0 y0)).2
theorem Zdy:Zra Tryz.prog 80=some (true,2):=by kernel_rfl
@[go_sem] theorem Tryz.load80 (H:Heap) (a:V):Zua Tryz.prog H 80 a=Z6b (some (true,2)) (Zug H a) a:=Zya Zdy H a
@[go_sem] theorem Tryz.bld80 (l:List (Nat × V)):Zkb Tryz.prog 80 l=(Ztb (Z9i [(0,1),(1,1)]) [.str [],.int .i64 0] l).map .agg:=Z0a (P:=Tryz.prog) (t:=80) (tbl:=[(0,1),(1,1)]) (z:=[.str [],.int .i64 0]) (by kernel_rfl) (by kernel_rfl) l
theorem Z2y:Zpa Tryz.prog 80 0=some (0,false,1):=by kernel_rfl
@[go_sem] theorem Tryz.fa80_0 (a:V):Zk Tryz.prog 80 a 0=Zuc (some (0,false,1)) a:=Zh Z2y a
theorem Z1y:Zpa Tryz.prog 80 1=some (1,false,1):=by kernel_rfl
@[go_sem] theorem Tryz.fa80_1 (a:V):Zk Tryz.prog 80 a 1=Zuc (some (1,false,1)) a:=Zh Z1y a
@[go_sem] theorem Tryz.neqs80 (x0 y0:List UInt8) (x1 y1:Int):Zxh Tryz.prog .neq 80 (.agg [.str x0,.int .i64 x1]) (.agg [.str y0,.int .i64 y1])=some (.bool (!(x0==y0 && (x1==y1 && true)))):=(Z3l (P:=Tryz.prog) (t:=80) (by kernel_rfl) (Ze3 (Zqj Zgo .i64 x1 y1) x0 y0)).2
theorem Zcy:Zra Tryz.prog 92=some (true,3):=by kernel_rfl
@[go_sem] theorem Tryz.load92 (H:Heap) (a:V):Zua Tryz.prog H 92 a=Z6b (some (true,3)) (Zug H a) a:=Zya Zcy H a
@[go_sem] theorem Tryz.sz92:Zcc Tryz.prog 92=some 3:=by kernel_rfl
@[go_sem] theorem Tryz.zero92:Zhe Tryz.prog 92=some [.int .u8 0,.str [],.nils]:=by kernel_rfl
theorem Z0y:Zpa Tryz.prog 92 0=some (0,false,1):=by kernel_rfl
@[go_sem] theorem Tryz.fa92_0 (a:V):Zk Tryz.prog 92 a 0=Zuc (some (0,false,1)) a:=Zh Z0y a
theorem Zzy:Zpa Tryz.prog 92 1=some (1,false,1):=by kernel_rfl
@[go_sem] theorem Tryz.fa92_1 (a:V):Zk Tryz.prog 92 a 1=Zuc (some (1,false,1)) a:=Zh Zzy a
theorem Zyy:Zpa Tryz.prog 92 2=some (2,true,1):=by kernel_rfl
@[go_sem] theorem Tryz.fa92_2 (a:V):Zk Tryz.prog 92 a 2=Zuc (some (2,true,1)) a:=Zh Zyy a
theorem Zby:Zra Tryz.prog 99=some (true,3):=by kernel_rfl
@[go_sem] theorem Tryz.load99 (H:Heap) (a:V):Zua Tryz.prog H 99 a=Z6b (some (true,3)) (Zug H a) a:=Zya Zby H a
@[go_sem] theorem Tryz.bld99 (l:List (Nat × V)):Zkb Tryz.prog 99 l=(Ztb (Z9i [(0,1),(1,1),(2,1)]) [.str [],.int .i64 0,.int .i64 0] l).map .agg:=Z0a (P:=Tryz.prog) (t:=99) (tbl:=[(0,1),(1,1),(2,1)]) (z:=[.str [],.int .i64 0,.int .i64 0]) (by kernel_rfl) (by kernel_rfl) l
theorem Zxy:Zpa Tryz.prog 99 0=some (0,false,1):=by kernel_rfl
@[go_sem] theorem Tryz.fa99_0 (a:V):Zk Tryz.prog 99 a 0=Zuc (some (0,false,1)) a:=Zh Zxy a
theorem Zwy:Zpa Tryz.prog 99 1=some (1,false,1):=by kernel_rfl
@[go_sem] theorem Tryz.fa99_1 (a:V):Zk Tryz.prog 99 a 1=Zuc (some (1,false,1)) a:=Zh Zwy a
theorem Zvy:Zpa Tryz.prog 99 2=some (2,false,1):=by kernel_rfl
@[go_sem] theorem Tryz.fa99_2 (a:V):Zk Tryz.prog 99 a 2=Zuc (some (2,false,1)) a:=Zh Zvy a
theorem Ztu:Zra Tryz.prog 100=some (true,69):=by kernel_rfl
@[go_sem] theorem Z3da (H:Heap) (a:V):Zua Tryz.prog H 100 a=Z6b (some (true,69)) (Zug H a) a:=Zya Ztu H a
@[go_sem] theorem Tryz.sz100:Zcc Tryz.prog 100=some 69:=by kernel_rfl
@[go_sem] theorem Zrda:Zhe Tryz.prog 100=some (.str [] :: .int .i64 0 :: .int .i64 0 :: .str [] :: .int .i64 0 :: .int .i64 0 :: .str [] :: .int .i64 0 :: .int .i64 0 :: .str [] :: .int .i64 0 :: .int .i64 0 :: .str [] :: .int .i64 0 :: .int .i64 0 :: .str [] :: .int .i64 0 :: .int .i64 0 :: .str [] :: .int .i64 0 :: .int .i64 0 :: .str [] :: .int .i64 0 :: .int .i64 0 :: .str [] :: .int .i64 0 :: .int .i64 0 :: .str [] :: .int .i64 0 :: .int .i64 0 :: .str [] :: .int .i64 0 :: .int .i64 0 :: .str [] :: .int .i64 0 :: .int .i64 0 :: .str [] :: .int .i64 0 :: .int .i64 0 :: .str [] :: .int .i64 0 :: .int .i64 0 :: .str [] :: .int .i64 0 :: .int .i64 0 :: .str [] :: .int .i64 0 :: .int .i64 0 :: .str [] :: .int .i64 0 :: .int .i64 0 :: .str [] :: .int .i64 0 :: .int .i64 0 :: .str [] :: .int .i64 0 :: .int .i64 0 :: .str [] :: .int .i64 0 :: .int .i64 0 :: .str [] :: .int .i64 0 :: .int .i64 0 :: .str [] :: .int .i64 0 :: .int .i64 0 :: .str [] :: .int .i64 0 :: .int .i64 0::[]):=by kernel_rfl
@[go_sem] theorem Tryz.ia100 (a:V) (ik:IntKind) (n:Int):Zja Tryz.prog 100 a (.int ik n)=idxA 23 3 true a ik n:=Zln (P:=Tryz.prog) (e:=99) (by kernel_rfl) (by kernel_rfl) (by kernel_rfl) (by decide) a ik n
@[go_sem] theorem Tryz.bla100 (l:List (Nat × V)):Zkb Tryz.prog 100 l=(Ztb (mulP 3) (.str [] :: .int .i64 0 :: .int .i64 0 :: .str [] :: .int .i64 0 :: .int .i64 0 :: .str [] :: .int .i64 0 :: .int .i64 0 :: .str [] :: .int .i64 0 :: .int .i64 0 :: .str [] :: .int .i64 0 :: .int .i64 0 :: .str [] :: .int .i64 0 :: .int .i64 0 :: .str [] :: .int .i64 0 :: .int .i64 0 :: .str [] :: .int .i64 0 :: .int .i64 0 :: .str [] :: .int .i64 0 :: .int .i64 0 :: .str [] :: .int .i64 0 :: .int .i64 0 :: .str [] :: .int .i64 0 :: .int .i64 0 :: .str [] :: .int .i64 0 :: .int .i64 0 :: .str [] :: .int .i64 0 :: .int .i64 0 :: .str [] :: .int .i64 0 :: .int .i64 0 :: .str [] :: .int .i64 0 :: .int .i64 0 :: .str [] :: .int .i64 0 :: .int .i64 0 :: .str [] :: .int .i64 0 :: .int .i64 0 :: .str [] :: .int .i64 0 :: .int .i64 0 :: .str [] :: .int .i64 0 :: .int .i64 0 :: .str [] :: .int .i64 0 :: .int .i64 0 :: .str [] :: .int .i64 0 :: .int .i64 0 :: .str [] :: .int .i64 0 :: .int .i64 0 :: .str [] :: .int .i64 0 :: .int .i64 0::[]) l).map .agg:=Zi3 (P:=Tryz.prog) (N:=23) (e:=99) (by kernel_rfl) (by kernel_rfl) (by kernel_rfl) l
theorem Z3i:Z5d Tryz.prog 102=some 2:=by kernel_rfl
@[go_sem] theorem Tryz.idx102 (a i:V):Zja Tryz.prog 102 a i=Znr (some 2) a i:=Z5a Z3i a i
@[go_sem] theorem Tryz.len102 (a:V):Zwn Tryz.prog 102 a=Zjn true a:=Zvb Z3i a
@[go_sem] theorem Tryz.sl102 (a:V) (lo hi:Option V):Zgg Tryz.prog 102 a lo hi none=slK 2 a lo hi:=Z9k Z3i a lo hi
@[go_sem] theorem Tryz.bs102 (n:Nat) (l:List (Nat × V)):Zed Tryz.prog 102 n l=bsK 2 [.int .i64 0,.int .i64 0] n l:=Zoc (P:=Tryz.prog) (t:=102) (e:=106) (m:=2) (z:=[.int .i64 0,.int .i64 0]) (by kernel_rfl) (by kernel_rfl) (by kernel_rfl) rfl n l
theorem Zz1:Z4l Tryz.prog [102,102]=some (2,16):=by kernel_rfl
@[go_sem] theorem Zifa (E:Ent) (ops:Array Oper) (Q:AS→Prop) (rest:List Oper) (e:Nat) (τ : Nat→V) (H:Heap) (a b:V):Zf1 Tryz.prog E ops Q rest e τ H [102,102] a b=Zxs Tryz.prog E ops Q rest e τ H 2 16 a (Zdb H 2 b) (obS H a):=Z5h ops Zz1 e a b
theorem Zsu:Zra Tryz.prog 104=some (false,1):=by kernel_rfl
@[go_sem] theorem Z2da (H:Heap) (a:V):Zua Tryz.prog H 104 a=Z6b (some (false,1)) (Zug H a) a:=Zya Zsu H a
@[go_sem] theorem Tryz.sz104:Zcc Tryz.prog 104=some 1:=by kernel_rfl
theorem Z2i:Z5d Tryz.prog 104=some 1:=by kernel_rfl
@[go_sem] theorem Tryz.idx104 (a i:V):Zja Tryz.prog 104 a i=Znr (some 1) a i:=Z5a Z2i a i
@[go_sem] theorem Tryz.len104 (a:V):Zwn Tryz.prog 104 a=Zjn true a:=Zvb Z2i a
@[go_sem] theorem Tryz.sl104 (a:V) (lo hi:Option V):Zgg Tryz.prog 104 a lo hi none=slK 1 a lo hi:=Z9k Z2i a lo hi
@[go_sem] theorem Tryz.bs104 (n:Nat) (l:List (Nat × V)):Zed Tryz.prog 104 n l=bsK 1 [.int .i64 0] n l:=Zoc (P:=Tryz.prog) (t:=104) (e:=3) (m:=1) (z:=[.int .i64 0]) (by kernel_rfl) (by kernel_rfl) (by kernel_rfl) rfl n l
@[go_sem] theorem Tryz.ms104 (a b:V):Zop Tryz.prog 104 a b=msK 1 8 [.int .i64 0] a b:=Za8 (P:=Tryz.prog) (t:=104) (e:=3) (E:=1) (bytes:=8) (z:=[.int .i64 0]) (by kernel_rfl) (by kernel_rfl) (by kernel_rfl) (by kernel_rfl) rfl a b
theorem Zy1:Z4l Tryz.prog [104,104]=some (1,8):=by kernel_rfl
@[go_sem] theorem Zhfa (E:Ent) (ops:Array Oper) (Q:AS→Prop) (rest:List Oper) (e:Nat) (τ : Nat→V) (H:Heap) (a b:V):Zf1 Tryz.prog E ops Q rest e τ H [104,104] a b=Zxs Tryz.prog E ops Q rest e τ H 1 8 a (Zdb H 1 b) (obS H a):=Z5h ops Zy1 e a b
theorem Zru:Zra Tryz.prog 106=some (true,2):=by kernel_rfl
@[go_sem] theorem Z1da (H:Heap) (a:V):Zua Tryz.prog H 106 a=Z6b (some (true,2)) (Zug H a) a:=Zya Zru H a
@[go_sem] theorem Tryz.sz106:Zcc Tryz.prog 106=some 2:=by kernel_rfl
@[go_sem] theorem Zqda:Zhe Tryz.prog 106=some [.int .i64 0,.int .i64 0]:=by kernel_rfl
@[go_sem] theorem Tryz.bld106 (l:List (Nat × V)):Zkb Tryz.prog 106 l=(Ztb (Z9i [(0,1),(1,1)]) [.int .i64 0,.int .i64 0] l).map .agg:=Z0a (P:=Tryz.prog) (t:=106) (tbl:=[(0,1),(1,1)]) (z:=[.int .i64 0,.int .i64 0]) (by kernel_rfl) (by kernel_rfl) l
theorem Z0v:Zpa Tryz.prog 106 0=some (0,false,1):=by kernel_rfl
@[go_sem] theorem Zcfa (a:V):Zk Tryz.prog 106 a 0=Zuc (some (0,false,1)) a:=Zh Z0v a
theorem Zzv:Zpa Tryz.prog 106 1=some (1,false,1):=by kernel_rfl
@[go_sem] theorem Zbfa (a:V):Zk Tryz.prog 106 a 1=Zuc (some (1,false,1)) a:=Zh Zzv a
theorem Zqu:Zra Tryz.prog 109=some (true,6):=by kernel_rfl
@[go_sem] theorem Z0da (H:Heap) (a:V):Zua Tryz.prog H 109 a=Z6b (some (true,6)) (Zug H a) a:=Zya Zqu H a
@[go_sem] theorem Tryz.sz109:Zcc Tryz.prog 109=some 6:=by kernel_rfl
@[go_sem] theorem Zpda:Zhe Tryz.prog 109=some [.int .u8 0,.int .i64 0,.str [],.int .i64 0,.int .i64 0,.int .i64 0]:=by kernel_rfl
@[go_sem] theorem Tryz.bld109 (l:List (Nat × V)):Zkb Tryz.prog 109 l=(Ztb (Z9i [(0,1),(1,1),(2,1),(3,1),(4,1),(5,1)]) [.int .u8 0,.int .i64 0,.str [],.int .i64 0,.int .i64 0,.int .i64 0] l).map .agg:=Z0a (P:=Tryz.prog) (t:=109) (tbl:=[(0,1),(1,1),(2,1),(3,1),(4,1),(5,1)]) (z:=[.int .u8 0,.int .i64 0,.str [],.int .i64 0,.int .i64 0,.int .i64 0]) (by kernel_rfl) (by kernel_rfl) l
theorem Zyv:Zpa Tryz.prog 109 0=some (0,false,1):=by kernel_rfl
@[go_sem] theorem Zafa (a:V):Zk Tryz.prog 109 a 0=Zuc (some (0,false,1)) a:=Zh Zyv a
theorem Zxv:Zpa Tryz.prog 109 1=some (1,false,1):=by kernel_rfl
@[go_sem] theorem Z9ea (a:V):Zk Tryz.prog 109 a 1=Zuc (some (1,false,1)) a:=Zh Zxv a
theorem Zwv:Zpa Tryz.prog 109 2=some (2,false,1):=by kernel_rfl
@[go_sem] theorem Z8ea (a:V):Zk Tryz.prog 109 a 2=Zuc (some (2,false,1)) a:=Zh Zwv a
theorem Zvv:Zpa Tryz.prog 109 3=some (3,false,1):=by kernel_rfl
@[go_sem] theorem Z7ea (a:V):Zk Tryz.prog 109 a 3=Zuc (some (3,false,1)) a:=Zh Zvv a
theorem Zuv:Zpa Tryz.prog 109 4=some (4,false,1):=by kernel_rfl
@[go_sem] theorem Z6ea (a:V):Zk Tryz.prog 109 a 4=Zuc (some (4,false,1)) a:=Zh Zuv a
theorem Ztv:Zpa Tryz.prog 109 5=some (5,false,1):=by kernel_rfl
@[go_sem] theorem Z5ea (a:V):Zk Tryz.prog 109 a 5=Zuc (some (5,false,1)) a:=Zh Ztv a
theorem Zpu:Zra Tryz.prog 112=some (true,2):=by kernel_rfl
@[go_sem] theorem Zzda (H:Heap) (a:V):Zua Tryz.prog H 112 a=Z6b (some (true,2)) (Zug H a) a:=Zya Zpu H a
@[go_sem] theorem Tryz.bld112 (l:List (Nat × V)):Zkb Tryz.prog 112 l=(Ztb (Z9i [(0,1),(1,1)]) [.nils,.nils] l).map .agg:=Z0a (P:=Tryz.prog) (t:=112) (tbl:=[(0,1),(1,1)]) (z:=[.nils,.nils]) (by kernel_rfl) (by kernel_rfl) l
theorem Zsv:Zpa Tryz.prog 112 0=some (0,false,1):=by kernel_rfl
@[go_sem] theorem Z4ea (a:V):Zk Tryz.prog 112 a 0=Zuc (some (0,false,1)) a:=Zh Zsv a
theorem Zrv:Zpa Tryz.prog 112 1=some (1,false,1):=by kernel_rfl
@[go_sem] theorem Z3ea (a:V):Zk Tryz.prog 112 a 1=Zuc (some (1,false,1)) a:=Zh Zrv a
theorem Zou:Zra Tryz.prog 116=some (false,1):=by kernel_rfl
@[go_sem] theorem Zyda (H:Heap) (a:V):Zua Tryz.prog H 116 a=Z6b (some (false,1)) (Zug H a) a:=Zya Zou H a
theorem Z1i:Z5d Tryz.prog 116=some 3:=by kernel_rfl
@[go_sem] theorem Tryz.idx116 (a i:V):Zja Tryz.prog 116 a i=Znr (some 3) a i:=Z5a Z1i a i
@[go_sem] theorem Tryz.len116 (a:V):Zwn Tryz.prog 116 a=Zjn true a:=Zvb Z1i a
@[go_sem] theorem Tryz.sl116 (a:V) (lo hi:Option V):Zgg Tryz.prog 116 a lo hi none=slK 3 a lo hi:=Z9k Z1i a lo hi
@[go_sem] theorem Tryz.bs116 (n:Nat) (l:List (Nat × V)):Zed Tryz.prog 116 n l=bsK 3 [.int .u8 0,.str [],.int .i64 0] n l:=Zoc (P:=Tryz.prog) (t:=116) (e:=121) (m:=3) (z:=[.int .u8 0,.str [],.int .i64 0]) (by kernel_rfl) (by kernel_rfl) (by kernel_rfl) rfl n l
theorem Zx1:Z4l Tryz.prog [116,116]=some (3,32):=by kernel_rfl
@[go_sem] theorem Zgfa (E:Ent) (ops:Array Oper) (Q:AS→Prop) (rest:List Oper) (e:Nat) (τ : Nat→V) (H:Heap) (a b:V):Zf1 Tryz.prog E ops Q rest e τ H [116,116] a b=Zxs Tryz.prog E ops Q rest e τ H 3 32 a (Zdb H 3 b) (obS H a):=Z5h ops Zx1 e a b
theorem Znu:Zra Tryz.prog 121=some (true,3):=by kernel_rfl
@[go_sem] theorem Zxda (H:Heap) (a:V):Zua Tryz.prog H 121 a=Z6b (some (true,3)) (Zug H a) a:=Zya Znu H a
@[go_sem] theorem Tryz.sz121:Zcc Tryz.prog 121=some 3:=by kernel_rfl
@[go_sem] theorem Zoda:Zhe Tryz.prog 121=some [.int .u8 0,.str [],.int .i64 0]:=by kernel_rfl
@[go_sem] theorem Tryz.bld121 (l:List (Nat × V)):Zkb Tryz.prog 121 l=(Ztb (Z9i [(0,1),(1,1),(2,1)]) [.int .u8 0,.str [],.int .i64 0] l).map .agg:=Z0a (P:=Tryz.prog) (t:=121) (tbl:=[(0,1),(1,1),(2,1)]) (z:=[.int .u8 0,.str [],.int .i64 0]) (by kernel_rfl) (by kernel_rfl) l
theorem Zqv:Zpa Tryz.prog 121 0=some (0,false,1):=by kernel_rfl
@[go_sem] theorem Z2ea (a:V):Zk Tryz.prog 121 a 0=Zuc (some (0,false,1)) a:=Zh Zqv a
theorem Zpv:Zpa Tryz.prog 121 1=some (1,false,1):=by kernel_rfl
@[go_sem] theorem Z1ea (a:V):Zk Tryz.prog 121 a 1=Zuc (some (1,false,1)) a:=Zh Zpv a
theorem Zov:Zpa Tryz.prog 121 2=some (2,false,1):=by kernel_rfl
@[go_sem] theorem Z0ea (a:V):Zk Tryz.prog 121 a 2=Zuc (some (2,false,1)) a:=Zh Zov a
theorem Zmu:Zra Tryz.prog 128=some (true,3):=by kernel_rfl
@[go_sem] theorem Zwda (H:Heap) (a:V):Zua Tryz.prog H 128 a=Z6b (some (true,3)) (Zug H a) a:=Zya Zmu H a
@[go_sem] theorem Tryz.sz128:Zcc Tryz.prog 128=some 3:=by kernel_rfl
@[go_sem] theorem Znda:Zhe Tryz.prog 128=some [.int .u8 0,.str [],.nils]:=by kernel_rfl
@[go_sem] theorem Tryz.bld128 (l:List (Nat × V)):Zkb Tryz.prog 128 l=(Ztb (Z9i [(0,1),(1,1),(2,1)]) [.int .u8 0,.str [],.nils] l).map .agg:=Z0a (P:=Tryz.prog) (t:=128) (tbl:=[(0,1),(1,1),(2,1)]) (z:=[.int .u8 0,.str [],.nils]) (by kernel_rfl) (by kernel_rfl) l
theorem Znv:Zpa Tryz.prog 128 0=some (0,false,1):=by kernel_rfl
@[go_sem] theorem Zzea (a:V):Zk Tryz.prog 128 a 0=Zuc (some (0,false,1)) a:=Zh Znv a
theorem Zmv:Zpa Tryz.prog 128 1=some (1,false,1):=by kernel_rfl
@[go_sem] theorem Zyea (a:V):Zk Tryz.prog 128 a 1=Zuc (some (1,false,1)) a:=Zh Zmv a
theorem Zlv:Zpa Tryz.prog 128 2=some (2,false,1):=by kernel_rfl
@[go_sem] theorem Zxea (a:V):Zk Tryz.prog 128 a 2=Zuc (some (2,false,1)) a:=Zh Zlv a
@[go_sem] theorem Tryz.bld129 (l:List (Nat × V)):Zkb Tryz.prog 129 l=(Ztb (Z9i [(0,1),(1,1)]) [.str [],.int .i64 0] l).map .agg:=Z0a (P:=Tryz.prog) (t:=129) (tbl:=[(0,1),(1,1)]) (z:=[.str [],.int .i64 0]) (by kernel_rfl) (by kernel_rfl) l
theorem Zkv:Zpa Tryz.prog 129 0=some (0,false,1):=by kernel_rfl
@[go_sem] theorem Zwea (a:V):Zk Tryz.prog 129 a 0=Zuc (some (0,false,1)) a:=Zh Zkv a
theorem Zjv:Zpa Tryz.prog 129 1=some (1,false,1):=by kernel_rfl
@[go_sem] theorem Zvea (a:V):Zk Tryz.prog 129 a 1=Zuc (some (1,false,1)) a:=Zh Zjv a
@[go_sem] theorem Tryz.bld133 (l:List (Nat × V)):Zkb Tryz.prog 133 l=(Ztb (Z9i [(0,3),(3,1)]) [.nils,.nils,.int .i64 0,.int .i64 0] l).map .agg:=Z0a (P:=Tryz.prog) (t:=133) (tbl:=[(0,3),(3,1)]) (z:=[.nils,.nils,.int .i64 0,.int .i64 0]) (by kernel_rfl) (by kernel_rfl) l
theorem Ziv:Zpa Tryz.prog 133 0=some (0,true,3):=by kernel_rfl
@[go_sem] theorem Zuea (a:V):Zk Tryz.prog 133 a 0=Zuc (some (0,true,3)) a:=Zh Ziv a
theorem Zhv:Zpa Tryz.prog 133 1=some (3,false,1):=by kernel_rfl
@[go_sem] theorem Ztea (a:V):Zk Tryz.prog 133 a 1=Zuc (some (3,false,1)) a:=Zh Zhv a
@[go_sem] theorem Tryz.bld146 (l:List (Nat × V)):Zkb Tryz.prog 146 l=(Ztb (Z9i [(0,1),(1,1),(2,1)]) [.nils,.int .i64 0,.int .i64 0] l).map .agg:=Z0a (P:=Tryz.prog) (t:=146) (tbl:=[(0,1),(1,1),(2,1)]) (z:=[.nils,.int .i64 0,.int .i64 0]) (by kernel_rfl) (by kernel_rfl) l
theorem Zgv:Zpa Tryz.prog 146 0=some (0,false,1):=by kernel_rfl
@[go_sem] theorem Zsea (a:V):Zk Tryz.prog 146 a 0=Zuc (some (0,false,1)) a:=Zh Zgv a
theorem Zfv:Zpa Tryz.prog 146 1=some (1,false,1):=by kernel_rfl
@[go_sem] theorem Zrea (a:V):Zk Tryz.prog 146 a 1=Zuc (some (1,false,1)) a:=Zh Zfv a
theorem Zev:Zpa Tryz.prog 146 2=some (2,false,1):=by kernel_rfl
@[go_sem] theorem Zqea (a:V):Zk Tryz.prog 146 a 2=Zuc (some (2,false,1)) a:=Zh Zev a
@[go_sem] theorem Tryz.bld148 (l:List (Nat × V)):Zkb Tryz.prog 148 l=(Ztb (Z9i [(0,3),(3,1)]) [.nils,.int .i64 0,.int .i64 0,.nils] l).map .agg:=Z0a (P:=Tryz.prog) (t:=148) (tbl:=[(0,3),(3,1)]) (z:=[.nils,.int .i64 0,.int .i64 0,.nils]) (by kernel_rfl) (by kernel_rfl) l
theorem Zdv:Zpa Tryz.prog 148 0=some (0,true,3):=by kernel_rfl
@[go_sem] theorem Zpea (a:V):Zk Tryz.prog 148 a 0=Zuc (some (0,true,3)) a:=Zh Zdv a
theorem Zcv:Zpa Tryz.prog 148 1=some (3,false,1):=by kernel_rfl
@[go_sem] theorem Zoea (a:V):Zk Tryz.prog 148 a 1=Zuc (some (3,false,1)) a:=Zh Zcv a
@[go_sem] theorem Tryz.sz152:Zcc Tryz.prog 152=some 1:=by kernel_rfl
@[go_sem] theorem Zmda:Zhe Tryz.prog 152=some [.int .i64 0]:=by kernel_rfl
@[go_sem] theorem Tryz.bld152 (l:List (Nat × V)):Zkb Tryz.prog 152 l=(Ztb (Z9i [(0,1)]) [.int .i64 0] l).map .agg:=Z0a (P:=Tryz.prog) (t:=152) (tbl:=[(0,1)]) (z:=[.int .i64 0]) (by kernel_rfl) (by kernel_rfl) l
theorem Zbv:Zpa Tryz.prog 152 0=some (0,false,1):=by kernel_rfl
@[go_sem] theorem Znea (a:V):Zk Tryz.prog 152 a 0=Zuc (some (0,false,1)) a:=Zh Zbv a
theorem Zlu:Zra Tryz.prog 155=some (false,1):=by kernel_rfl
@[go_sem] theorem Zvda (H:Heap) (a:V):Zua Tryz.prog H 155 a=Z6b (some (false,1)) (Zug H a) a:=Zya Zlu H a
@[go_sem] theorem Tryz.bld157 (l:List (Nat × V)):Zkb Tryz.prog 157 l=(Ztb (Z9i [(0,1),(1,1)]) [.nils,.nilm] l).map .agg:=Z0a (P:=Tryz.prog) (t:=157) (tbl:=[(0,1),(1,1)]) (z:=[.nils,.nilm]) (by kernel_rfl) (by kernel_rfl) l
theorem Zav:Zpa Tryz.prog 157 0=some (0,false,1):=by kernel_rfl
@[go_sem] theorem Zmea (a:V):Zk Tryz.prog 157 a 0=Zuc (some (0,false,1)) a:=Zh Zav a
theorem Z9u:Zpa Tryz.prog 157 1=some (1,false,1):=by kernel_rfl
@[go_sem] theorem Zlea (a:V):Zk Tryz.prog 157 a 1=Zuc (some (1,false,1)) a:=Zh Z9u a
theorem Zku:Zra Tryz.prog 169=some (false,1):=by kernel_rfl
@[go_sem] theorem Zuda (H:Heap) (a:V):Zua Tryz.prog H 169 a=Z6b (some (false,1)) (Zug H a) a:=Zya Zku H a
@[go_sem] theorem Tryz.bld171 (l:List (Nat × V)):Zkb Tryz.prog 171 l=(Ztb (Z9i [(0,1),(1,1),(2,1),(3,1),(4,1)]) [.nils,.int .i64 0,.nils,.int .i64 0,.nilf] l).map .agg:=Z0a (P:=Tryz.prog) (t:=171) (tbl:=[(0,1),(1,1),(2,1),(3,1),(4,1)]) (z:=[.nils,.int .i64 0,.nils,.int .i64 0,.nilf]) (by kernel_rfl) (by kernel_rfl) l
theorem Z8u:Zpa Tryz.prog 171 0=some (0,false,1):=by kernel_rfl
@[go_sem] theorem Zkea (a:V):Zk Tryz.prog 171 a 0=Zuc (some (0,false,1)) a:=Zh Z8u a
theorem Z7u:Zpa Tryz.prog 171 1=some (1,false,1):=by kernel_rfl
@[go_sem] theorem Zjea (a:V):Zk Tryz.prog 171 a 1=Zuc (some (1,false,1)) a:=Zh Z7u a
theorem Z6u:Zpa Tryz.prog 171 2=some (2,false,1):=by kernel_rfl
@[go_sem] theorem Ziea (a:V):Zk Tryz.prog 171 a 2=Zuc (some (2,false,1)) a:=Zh Z6u a
theorem Z5u:Zpa Tryz.prog 171 3=some (3,false,1):=by kernel_rfl
@[go_sem] theorem Zhea (a:V):Zk Tryz.prog 171 a 3=Zuc (some (3,false,1)) a:=Zh Z5u a
theorem Z4u:Zpa Tryz.prog 171 4=some (4,false,1):=by kernel_rfl
@[go_sem] theorem Zgea (a:V):Zk Tryz.prog 171 a 4=Zuc (some (4,false,1)) a:=Zh Z4u a
@[go_sem] theorem Tryz.sz182:Zcc Tryz.prog 182=some 3:=by kernel_rfl
@[go_sem] theorem Zlda:Zhe Tryz.prog 182=some [.int .u8 0,.str [],.nils]:=by kernel_rfl
@[go_sem] theorem Tryz.bld182 (l:List (Nat × V)):Zkb Tryz.prog 182 l=(Ztb (Z9i [(0,3)]) [.int .u8 0,.str [],.nils] l).map .agg:=Z0a (P:=Tryz.prog) (t:=182) (tbl:=[(0,3)]) (z:=[.int .u8 0,.str [],.nils]) (by kernel_rfl) (by kernel_rfl) l
theorem Z3u:Zpa Tryz.prog 182 0=some (0,true,3):=by kernel_rfl
@[go_sem] theorem Zfea (a:V):Zk Tryz.prog 182 a 0=Zuc (some (0,true,3)) a:=Zh Z3u a
@[go_sem] theorem Tryz.sz187:Zcc Tryz.prog 187=some 3:=by kernel_rfl
@[go_sem] theorem Zkda:Zhe Tryz.prog 187=some [.int .u8 0,.str [],.nils]:=by kernel_rfl
@[go_sem] theorem Tryz.bld187 (l:List (Nat × V)):Zkb Tryz.prog 187 l=(Ztb (Z9i [(0,3)]) [.int .u8 0,.str [],.nils] l).map .agg:=Z0a (P:=Tryz.prog) (t:=187) (tbl:=[(0,3)]) (z:=[.int .u8 0,.str [],.nils]) (by kernel_rfl) (by kernel_rfl) l
theorem Z2u:Zpa Tryz.prog 187 0=some (0,true,3):=by kernel_rfl
@[go_sem] theorem Zeea (a:V):Zk Tryz.prog 187 a 0=Zuc (some (0,true,3)) a:=Zh Z2u a
theorem Zju:Zra Tryz.prog 188=some (false,1):=by kernel_rfl
@[go_sem] theorem Ztda (H:Heap) (a:V):Zua Tryz.prog H 188 a=Z6b (some (false,1)) (Zug H a) a:=Zya Zju H a
theorem Z0i:Z5d Tryz.prog 188=some 3:=by kernel_rfl
@[go_sem] theorem Tryz.idx188 (a i:V):Zja Tryz.prog 188 a i=Znr (some 3) a i:=Z5a Z0i a i
@[go_sem] theorem Tryz.len188 (a:V):Zwn Tryz.prog 188 a=Zjn true a:=Zvb Z0i a
@[go_sem] theorem Tryz.sl188 (a:V) (lo hi:Option V):Zgg Tryz.prog 188 a lo hi none=slK 3 a lo hi:=Z9k Z0i a lo hi
@[go_sem] theorem Tryz.bs188 (n:Nat) (l:List (Nat × V)):Zed Tryz.prog 188 n l=bsK 3 [.int .u8 0,.str [],.int .i64 0] n l:=Zoc (P:=Tryz.prog) (t:=188) (e:=191) (m:=3) (z:=[.int .u8 0,.str [],.int .i64 0]) (by kernel_rfl) (by kernel_rfl) (by kernel_rfl) rfl n l
theorem Zw1:Z4l Tryz.prog [188,188]=some (3,32):=by kernel_rfl
@[go_sem] theorem Zffa (E:Ent) (ops:Array Oper) (Q:AS→Prop) (rest:List Oper) (e:Nat) (τ : Nat→V) (H:Heap) (a b:V):Zf1 Tryz.prog E ops Q rest e τ H [188,188] a b=Zxs Tryz.prog E ops Q rest e τ H 3 32 a (Zdb H 3 b) (obS H a):=Z5h ops Zw1 e a b
@[go_sem] theorem Tryz.bld191 (l:List (Nat × V)):Zkb Tryz.prog 191 l=(Ztb (Z9i [(0,1),(1,1),(2,1)]) [.int .u8 0,.str [],.int .i64 0] l).map .agg:=Z0a (P:=Tryz.prog) (t:=191) (tbl:=[(0,1),(1,1),(2,1)]) (z:=[.int .u8 0,.str [],.int .i64 0]) (by kernel_rfl) (by kernel_rfl) l
theorem Z1u:Zpa Tryz.prog 191 0=some (0,false,1):=by kernel_rfl
@[go_sem] theorem Zdea (a:V):Zk Tryz.prog 191 a 0=Zuc (some (0,false,1)) a:=Zh Z1u a
theorem Z0u:Zpa Tryz.prog 191 1=some (1,false,1):=by kernel_rfl
@[go_sem] theorem Zcea (a:V):Zk Tryz.prog 191 a 1=Zuc (some (1,false,1)) a:=Zh Z0u a
theorem Zzu:Zpa Tryz.prog 191 2=some (2,false,1):=by kernel_rfl
@[go_sem] theorem Zbea (a:V):Zk Tryz.prog 191 a 2=Zuc (some (2,false,1)) a:=Zh Zzu a
theorem Ziu:Zra Tryz.prog 204=some (true,2):=by kernel_rfl
@[go_sem] theorem Zsda (H:Heap) (a:V):Zua Tryz.prog H 204 a=Z6b (some (true,2)) (Zug H a) a:=Zya Ziu H a
@[go_sem] theorem Tryz.sz204:Zcc Tryz.prog 204=some 2:=by kernel_rfl
@[go_sem] theorem Zjda:Zhe Tryz.prog 204=some [.nils,.bool false]:=by kernel_rfl
@[go_sem] theorem Tryz.bld204 (l:List (Nat × V)):Zkb Tryz.prog 204 l=(Ztb (Z9i [(0,1),(1,1)]) [.nils,.bool false] l).map .agg:=Z0a (P:=Tryz.prog) (t:=204) (tbl:=[(0,1),(1,1)]) (z:=[.nils,.bool false]) (by kernel_rfl) (by kernel_rfl) l
theorem Z6l:Zpa Tryz.prog 204 0=some (0,false,1):=by kernel_rfl
@[go_sem] theorem Zaea (a:V):Zk Tryz.prog 204 a 0=Zuc (some (0,false,1)) a:=Zh Z6l a
@[go_sem] theorem Z4da (l:List V):Z0l Tryz.prog 204 (.agg l) 0=Zyj false 1 l 0:=Z4t Z6l l
theorem Zyu:Zpa Tryz.prog 204 1=some (1,false,1):=by kernel_rfl
@[go_sem] theorem Z9da (a:V):Zk Tryz.prog 204 a 1=Zuc (some (1,false,1)) a:=Zh Zyu a
@[go_sem] theorem Tryz.ia212 (a:V) (ik:IntKind) (n:Int):Zja Tryz.prog 212 a (.int ik n)=idxA 14 1 false a ik n:=Zln (P:=Tryz.prog) (e:=9) (by kernel_rfl) (by kernel_rfl) (by kernel_rfl) (by decide) a ik n
theorem Zsn:Z5d Tryz.prog 249=some 3:=by kernel_rfl
@[go_sem] theorem Tryz.idx249 (a i:V):Zja Tryz.prog 249 a i=Znr (some 3) a i:=Z5a Zsn a i
@[go_sem] theorem Tryz.len249 (a:V):Zwn Tryz.prog 249 a=Zjn true a:=Zvb Zsn a
@[go_sem] theorem Tryz.bld254 (l:List (Nat × V)):Zkb Tryz.prog 254 l=(Ztb (Z9i [(0,1),(1,1),(2,1),(3,1)]) [.nils,.int .i64 0,.nils,.int .i64 0] l).map .agg:=Z0a (P:=Tryz.prog) (t:=254) (tbl:=[(0,1),(1,1),(2,1),(3,1)]) (z:=[.nils,.int .i64 0,.nils,.int .i64 0]) (by kernel_rfl) (by kernel_rfl) l
theorem Zxu:Zpa Tryz.prog 254 0=some (0,false,1):=by kernel_rfl
@[go_sem] theorem Z8da (a:V):Zk Tryz.prog 254 a 0=Zuc (some (0,false,1)) a:=Zh Zxu a
theorem Zwu:Zpa Tryz.prog 254 1=some (1,false,1):=by kernel_rfl
@[go_sem] theorem Z7da (a:V):Zk Tryz.prog 254 a 1=Zuc (some (1,false,1)) a:=Zh Zwu a
theorem Zvu:Zpa Tryz.prog 254 2=some (2,false,1):=by kernel_rfl
@[go_sem] theorem Z6da (a:V):Zk Tryz.prog 254 a 2=Zuc (some (2,false,1)) a:=Zh Zvu a
theorem Zuu:Zpa Tryz.prog 254 3=some (3,false,1):=by kernel_rfl
@[go_sem] theorem Z5da (a:V):Zk Tryz.prog 254 a 3=Zuc (some (3,false,1)) a:=Zh Zuu a
@[go_sem] theorem Tryz.iv261 (l:List V) (ik:IntKind) (n:Int):Z4j Tryz.prog 261 (.agg l) (.int ik n)=if 0≤n∧n<(3:Nat) then Zyj false 1 l (n.toNat * 1) else none:=Zuba (P:=Tryz.prog) (e:=9) (by kernel_rfl) (by kernel_rfl) (by kernel_rfl) (by decide) l ik n
@[go_sem] theorem Tryz.bla261 (l:List (Nat × V)):Zkb Tryz.prog 261 l=(Ztb (mulP 1) [.str [],.str [],.str []] l).map .agg:=Zi3 (P:=Tryz.prog) (N:=3) (e:=9) (by kernel_rfl) (by kernel_rfl) (by kernel_rfl) l
@[go_sem] theorem Zdfa (k:IntKind) (n:Int):Zpr Tryz.prog 2 262 (.int k n)=some (.int .u64 (IntKind.wrap .u64 n)):=Zho (P:=Tryz.prog) (s:=2) (d:=262) (by kernel_rfl) (by kernel_rfl) k n
@[go_sem] theorem Tryz.cv3_5 (k:IntKind) (n:Int):Zpr Tryz.prog 3 5 (.int k n)=some (.int .u8 (IntKind.wrap .u8 n)):=Zho (P:=Tryz.prog) (s:=3) (d:=5) (by kernel_rfl) (by kernel_rfl) k n
@[go_sem] theorem Tryz.cv5_3 (k:IntKind) (n:Int):Zpr Tryz.prog 5 3 (.int k n)=some (.int .i64 (IntKind.wrap .i64 n)):=Zho (P:=Tryz.prog) (s:=5) (d:=3) (by kernel_rfl) (by kernel_rfl) k n
@[go_sem] theorem Zefa (k:IntKind) (n:Int):Zpr Tryz.prog 262 2 (.int k n)=some (.int .i64 (IntKind.wrap .i64 n)):=Zho (P:=Tryz.prog) (s:=262) (d:=2) (by kernel_rfl) (by kernel_rfl) k n
end Go.Hs
end
