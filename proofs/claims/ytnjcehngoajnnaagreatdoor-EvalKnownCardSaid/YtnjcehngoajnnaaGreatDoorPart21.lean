/- Part 21 of the proof of a statement of seat YtnjcehngoajnnaaGreatDoor: HsFactsG. -/
import Derived.Test.YtnjcehngoajnnaaGreatDoorPart20
import Derived.Test.YtnjcehngoajnnaaGreatDoorProg
import Derived.KernelRfl
set_option linter.unusedSimpArgs false
set_option linter.unusedVariables false
section
namespace Go.Hs
open Go.Proofs
theorem Z0v:Zta Tryz.prog 2=some (false,1):=by kernel_rfl
@[go_sem] theorem Tryz.load2 (H:Heap) (a:V):Zoa Tryz.prog H 2 a=Z4b (some (false,1)) (Zwg H a) a:=Zva Z0v H a
theorem Zzv:Zta Tryz.prog 3=some (false,1):=by kernel_rfl
@[go_sem] theorem Tryz.load3 (H:Heap) (a:V):Zoa Tryz.prog H 3 a=Z4b (some (false,1)) (Zwg H a) a:=Zva Zzv H a
@[go_sem] theorem Tryz.sz3:Z5b Tryz.prog 3=some 1:=by kernel_rfl
theorem Zyv:Zta Tryz.prog 4=some (false,1):=by kernel_rfl
@[go_sem] theorem Tryz.load4 (H:Heap) (a:V):Zoa Tryz.prog H 4 a=Z4b (some (false,1)) (Zwg H a) a:=Zva Zyv H a
@[go_sem] theorem Tryz.sz4:Z5b Tryz.prog 4=some 1:=by kernel_rfl
@[go_sem] theorem Tryz.eqb4 (a b:Bool):Zrh Tryz.prog .eql 4 (.bool a) (.bool b)=some (.bool (a==b)):=(Zbt (P:=Tryz.prog) (by kernel_rfl) a b).1
@[go_sem] theorem Tryz.neb4 (a b:Bool):Zrh Tryz.prog .neq 4 (.bool a) (.bool b)=some (.bool (a != b)):=(Zbt (P:=Tryz.prog) (by kernel_rfl) a b).2
theorem Zxv:Zta Tryz.prog 5=some (false,1):=by kernel_rfl
@[go_sem] theorem Tryz.load5 (H:Heap) (a:V):Zoa Tryz.prog H 5 a=Z4b (some (false,1)) (Zwg H a) a:=Zva Zxv H a
@[go_sem] theorem Tryz.sz5:Z5b Tryz.prog 5=some 1:=by kernel_rfl
theorem Zwv:Zta Tryz.prog 9=some (false,1):=by kernel_rfl
@[go_sem] theorem Tryz.load9 (H:Heap) (a:V):Zoa Tryz.prog H 9 a=Z4b (some (false,1)) (Zwg H a) a:=Zva Zwv H a
theorem Zon:Zgv Tryz.prog 9=true:=by kernel_rfl
@[go_sem] theorem Tryz.len9 (a:V):Z1n Tryz.prog 9 a=Zrm false a:=Zz4 Zon a
@[go_sem] theorem Tryz.ixs9 (s:List UInt8) (k:IntKind) (n:Int):Z0h Tryz.prog 9 (.str s) (.int k n)=if 0≤n then (s[n.toNat]?).map fun b => .int .u8 b.toNat else none:=Z4y Zon s k n
@[go_sem] theorem Tryz.sls9 (s:List UInt8) (lo hi:Option V):Zkg Tryz.prog 9 (.str s) lo hi none=slJ (Zja 0 lo) (Zja s.length hi) fun i j=>if i≤j∧j≤s.length then some (.str ((s.drop i).take (j-i))) else none:=Z3x Zon s lo hi
theorem Zot:Zta Tryz.prog 22=some (false,1):=by kernel_rfl
@[go_sem] theorem Tryz.load22 (H:Heap) (a:V):Zoa Tryz.prog H 22 a=Z4b (some (false,1)) (Zwg H a) a:=Zva Zot H a
@[go_sem] theorem Tryz.sz22:Z5b Tryz.prog 22=some 1:=by kernel_rfl
theorem Zzn:Zld Tryz.prog 22=some 6:=by kernel_rfl
@[go_sem] theorem Tryz.idx22 (a i:V):Zha Tryz.prog 22 a i=Zxo (some 6) a i:=Zua Zzn a i
@[go_sem] theorem Tryz.len22 (a:V):Z1n Tryz.prog 22 a=Zrm true a:=Z2b Zzn a
@[go_sem] theorem Tryz.bs22 (n:Nat) (l:List (Nat × V)):Zwc Tryz.prog 22 n l=bsK 6 [.int .u8 0,.int .i64 0,.str [],.int .i64 0,.int .i64 0,.int .i64 0] n l:=Zbc (P:=Tryz.prog) (t:=22) (e:=59) (m:=6) (z:=[.int .u8 0,.int .i64 0,.str [],.int .i64 0,.int .i64 0,.int .i64 0]) (by kernel_rfl) (by kernel_rfl) (by kernel_rfl) rfl n l
theorem Ztz:Zin Tryz.prog [22,22]=some (6,56):=by kernel_rfl
@[go_sem] theorem Tryz.appc22 (E:Ent) (ops:Array Oper) (Q:AS→Prop) (rest:List Oper) (e:Nat) (τ : Nat→V) (H:Heap) (a b:V):Z3z Tryz.prog E ops Q rest e τ H [22,22] a b=Zdt Tryz.prog E ops Q rest e τ H 6 56 a (Z4a H 6 b) (obS H a):=Zuj ops Ztz e a b
theorem Znt:Zta Tryz.prog 24=some (true,1):=by kernel_rfl
@[go_sem] theorem Tryz.load24 (H:Heap) (a:V):Zoa Tryz.prog H 24 a=Z4b (some (true,1)) (Zwg H a) a:=Zva Znt H a
@[go_sem] theorem Tryz.sz24:Z5b Tryz.prog 24=some 1:=by kernel_rfl
@[go_sem] theorem Tryz.zero24:Zhe Tryz.prog 24=some [.nils]:=by kernel_rfl
@[go_sem] theorem Tryz.bld24 (l:List (Nat × V)):Zsb Tryz.prog 24 l=(Zwb (Zdl [(0,1)]) [.nils] l).map .agg:=Zob (P:=Tryz.prog) (t:=24) (tbl:=[(0,1)]) (z:=[.nils]) (by kernel_rfl) (by kernel_rfl) l
theorem Z6t:Z8a Tryz.prog 24 0=some (0,false,1):=by kernel_rfl
@[go_sem] theorem Tryz.fa24_0 (a:V):Zp Tryz.prog 24 a 0=Z4d (some (0,false,1)) a:=Zm Z6t a
theorem Zyn:Zld Tryz.prog 25=some 2:=by kernel_rfl
@[go_sem] theorem Tryz.idx25 (a i:V):Zha Tryz.prog 25 a i=Zxo (some 2) a i:=Zua Zyn a i
@[go_sem] theorem Tryz.len25 (a:V):Z1n Tryz.prog 25 a=Zrm true a:=Z2b Zyn a
@[go_sem] theorem Tryz.bs25 (n:Nat) (l:List (Nat × V)):Zwc Tryz.prog 25 n l=bsK 2 [.str [],.int .i64 0] n l:=Zbc (P:=Tryz.prog) (t:=25) (e:=55) (m:=2) (z:=[.str [],.int .i64 0]) (by kernel_rfl) (by kernel_rfl) (by kernel_rfl) rfl n l
theorem Zsz:Zin Tryz.prog [25,25]=some (2,24):=by kernel_rfl
@[go_sem] theorem Tryz.appc25 (E:Ent) (ops:Array Oper) (Q:AS→Prop) (rest:List Oper) (e:Nat) (τ : Nat→V) (H:Heap) (a b:V):Z3z Tryz.prog E ops Q rest e τ H [25,25] a b=Zdt Tryz.prog E ops Q rest e τ H 2 24 a (Z4a H 2 b) (obS H a):=Zuj ops Zsz e a b
theorem Zwi:Zld Tryz.prog 28=some 1:=by kernel_rfl
@[go_sem] theorem Tryz.idx28 (a i:V):Zha Tryz.prog 28 a i=Zxo (some 1) a i:=Zua Zwi a i
@[go_sem] theorem Tryz.len28 (a:V):Z1n Tryz.prog 28 a=Zrm true a:=Z2b Zwi a
@[go_sem] theorem Tryz.sl28 (a:V) (lo hi:Option V):Zkg Tryz.prog 28 a lo hi none=slK 1 a lo hi:=Zjp Zwi a lo hi
@[go_sem] theorem Tryz.bs28 (n:Nat) (l:List (Nat × V)):Zwc Tryz.prog 28 n l=bsK 1 [.nils] n l:=Zbc (P:=Tryz.prog) (t:=28) (e:=24) (m:=1) (z:=[.nils]) (by kernel_rfl) (by kernel_rfl) (by kernel_rfl) rfl n l
theorem Zmt:Zta Tryz.prog 30=some (false,1):=by kernel_rfl
@[go_sem] theorem Tryz.load30 (H:Heap) (a:V):Zoa Tryz.prog H 30 a=Z4b (some (false,1)) (Zwg H a) a:=Zva Zmt H a
@[go_sem] theorem Tryz.sz30:Z5b Tryz.prog 30=some 1:=by kernel_rfl
@[go_sem] theorem Tryz.zero30:Zhe Tryz.prog 30=some [.int .i64 0]:=by kernel_rfl
theorem Zlt:Zta Tryz.prog 34=some (true,3):=by kernel_rfl
@[go_sem] theorem Tryz.load34 (H:Heap) (a:V):Zoa Tryz.prog H 34 a=Z4b (some (true,3)) (Zwg H a) a:=Zva Zlt H a
@[go_sem] theorem Tryz.sz34:Z5b Tryz.prog 34=some 3:=by kernel_rfl
@[go_sem] theorem Tryz.zero34:Zhe Tryz.prog 34=some [.int .u8 0,.int .i64 0,.bool false]:=by kernel_rfl
@[go_sem] theorem Tryz.bld34 (l:List (Nat × V)):Zsb Tryz.prog 34 l=(Zwb (Zdl [(0,1),(1,1),(2,1)]) [.int .u8 0,.int .i64 0,.bool false] l).map .agg:=Zob (P:=Tryz.prog) (t:=34) (tbl:=[(0,1),(1,1),(2,1)]) (z:=[.int .u8 0,.int .i64 0,.bool false]) (by kernel_rfl) (by kernel_rfl) l
theorem Z5t:Z8a Tryz.prog 34 0=some (0,false,1):=by kernel_rfl
@[go_sem] theorem Tryz.fa34_0 (a:V):Zp Tryz.prog 34 a 0=Z4d (some (0,false,1)) a:=Zm Z5t a
theorem Z8k:Z8a Tryz.prog 34 1=some (1,false,1):=by kernel_rfl
@[go_sem] theorem Tryz.fa34_1 (a:V):Zp Tryz.prog 34 a 1=Z4d (some (1,false,1)) a:=Zm Z8k a
@[go_sem] theorem Tryz.fv34_1 (l:List V):Zqj Tryz.prog 34 (.agg l) 1=Zvh false 1 l 1:=Z3p Z8k l
theorem Z7k:Z8a Tryz.prog 34 2=some (2,false,1):=by kernel_rfl
@[go_sem] theorem Tryz.fa34_2 (a:V):Zp Tryz.prog 34 a 2=Z4d (some (2,false,1)) a:=Zm Z7k a
@[go_sem] theorem Tryz.fv34_2 (l:List V):Zqj Tryz.prog 34 (.agg l) 2=Zvh false 1 l 2:=Z3p Z7k l
@[go_sem] theorem Tryz.eqls34 (x0 y0:Int) (x1 y1:Int) (x2 y2:Bool):Zrh Tryz.prog .eql 34 (.agg [.int .u8 x0,.int .i64 x1,.bool x2]) (.agg [.int .u8 y0,.int .i64 y1,.bool y2])=some (.bool (x0==y0 && (x1==y1 && (x2==y2 && true)))):=(Zhn (P:=Tryz.prog) (t:=34) (by kernel_rfl) (Zqh (Zqh (Z1m Z4p x2 y2) .i64 x1 y1) .u8 x0 y0)).1
@[go_sem] theorem Tryz.neqs34 (x0 y0:Int) (x1 y1:Int) (x2 y2:Bool):Zrh Tryz.prog .neq 34 (.agg [.int .u8 x0,.int .i64 x1,.bool x2]) (.agg [.int .u8 y0,.int .i64 y1,.bool y2])=some (.bool (!(x0==y0 && (x1==y1 && (x2==y2 && true))))):=(Zhn (P:=Tryz.prog) (t:=34) (by kernel_rfl) (Zqh (Zqh (Z1m Z4p x2 y2) .i64 x1 y1) .u8 x0 y0)).2
theorem Zkt:Zta Tryz.prog 39=some (false,1):=by kernel_rfl
@[go_sem] theorem Tryz.load39 (H:Heap) (a:V):Zoa Tryz.prog H 39 a=Z4b (some (false,1)) (Zwg H a) a:=Zva Zkt H a
theorem Zxn:Zld Tryz.prog 39=some 6:=by kernel_rfl
@[go_sem] theorem Tryz.idx39 (a i:V):Zha Tryz.prog 39 a i=Zxo (some 6) a i:=Zua Zxn a i
@[go_sem] theorem Tryz.len39 (a:V):Z1n Tryz.prog 39 a=Zrm true a:=Z2b Zxn a
@[go_sem] theorem Tryz.bs39 (n:Nat) (l:List (Nat × V)):Zwc Tryz.prog 39 n l=bsK 6 [.int .u8 0,.int .i64 0,.str [],.int .i64 0,.int .i64 0,.int .i64 0] n l:=Zbc (P:=Tryz.prog) (t:=39) (e:=109) (m:=6) (z:=[.int .u8 0,.int .i64 0,.str [],.int .i64 0,.int .i64 0,.int .i64 0]) (by kernel_rfl) (by kernel_rfl) (by kernel_rfl) rfl n l
theorem Zrz:Zin Tryz.prog [39,39]=some (6,56):=by kernel_rfl
@[go_sem] theorem Tryz.appc39 (E:Ent) (ops:Array Oper) (Q:AS→Prop) (rest:List Oper) (e:Nat) (τ : Nat→V) (H:Heap) (a b:V):Z3z Tryz.prog E ops Q rest e τ H [39,39] a b=Zdt Tryz.prog E ops Q rest e τ H 6 56 a (Z4a H 6 b) (obS H a):=Zuj ops Zrz e a b
theorem Zjt:Zta Tryz.prog 41=some (false,1):=by kernel_rfl
@[go_sem] theorem Tryz.load41 (H:Heap) (a:V):Zoa Tryz.prog H 41 a=Z4b (some (false,1)) (Zwg H a) a:=Zva Zjt H a
theorem Zwn:Zld Tryz.prog 41=some 2:=by kernel_rfl
@[go_sem] theorem Tryz.idx41 (a i:V):Zha Tryz.prog 41 a i=Zxo (some 2) a i:=Zua Zwn a i
@[go_sem] theorem Tryz.len41 (a:V):Z1n Tryz.prog 41 a=Zrm true a:=Z2b Zwn a
@[go_sem] theorem Tryz.bs41 (n:Nat) (l:List (Nat × V)):Zwc Tryz.prog 41 n l=bsK 2 [.str [],.int .i64 0] n l:=Zbc (P:=Tryz.prog) (t:=41) (e:=80) (m:=2) (z:=[.str [],.int .i64 0]) (by kernel_rfl) (by kernel_rfl) (by kernel_rfl) rfl n l
theorem Zqz:Zin Tryz.prog [41,41]=some (2,24):=by kernel_rfl
@[go_sem] theorem Tryz.appc41 (E:Ent) (ops:Array Oper) (Q:AS→Prop) (rest:List Oper) (e:Nat) (τ : Nat→V) (H:Heap) (a b:V):Z3z Tryz.prog E ops Q rest e τ H [41,41] a b=Zdt Tryz.prog E ops Q rest e τ H 2 24 a (Z4a H 2 b) (obS H a):=Zuj ops Zqz e a b
theorem Zit:Zta Tryz.prog 43=some (true,3):=by kernel_rfl
@[go_sem] theorem Tryz.load43 (H:Heap) (a:V):Zoa Tryz.prog H 43 a=Z4b (some (true,3)) (Zwg H a) a:=Zva Zit H a
@[go_sem] theorem Tryz.sz43:Z5b Tryz.prog 43=some 3:=by kernel_rfl
@[go_sem] theorem Tryz.zero43:Zhe Tryz.prog 43=some [.int .u8 0,.int .i64 0,.bool false]:=by kernel_rfl
@[go_sem] theorem Tryz.bld43 (l:List (Nat × V)):Zsb Tryz.prog 43 l=(Zwb (Zdl [(0,1),(1,1),(2,1)]) [.int .u8 0,.int .i64 0,.bool false] l).map .agg:=Zob (P:=Tryz.prog) (t:=43) (tbl:=[(0,1),(1,1),(2,1)]) (z:=[.int .u8 0,.int .i64 0,.bool false]) (by kernel_rfl) (by kernel_rfl) l
theorem Z4t:Z8a Tryz.prog 43 0=some (0,false,1):=by kernel_rfl
@[go_sem] theorem Tryz.fa43_0 (a:V):Zp Tryz.prog 43 a 0=Z4d (some (0,false,1)) a:=Zm Z4t a
theorem Z3t:Z8a Tryz.prog 43 1=some (1,false,1):=by kernel_rfl
@[go_sem] theorem Tryz.fa43_1 (a:V):Zp Tryz.prog 43 a 1=Z4d (some (1,false,1)) a:=Zm Z3t a
theorem Z2t:Z8a Tryz.prog 43 2=some (2,false,1):=by kernel_rfl
@[go_sem] theorem Tryz.fa43_2 (a:V):Zp Tryz.prog 43 a 2=Z4d (some (2,false,1)) a:=Zm Z2t a
@[go_sem] theorem Tryz.eqls43 (x0 y0:Int) (x1 y1:Int) (x2 y2:Bool):Zrh Tryz.prog .eql 43 (.agg [.int .u8 x0,.int .i64 x1,.bool x2]) (.agg [.int .u8 y0,.int .i64 y1,.bool y2])=some (.bool (x0==y0 && (x1==y1 && (x2==y2 && true)))):=(Zhn (P:=Tryz.prog) (t:=43) (by kernel_rfl) (Zqh (Zqh (Z1m Z4p x2 y2) .i64 x1 y1) .u8 x0 y0)).1
theorem Zht:Zta Tryz.prog 53=some (false,1):=by kernel_rfl
@[go_sem] theorem Tryz.load53 (H:Heap) (a:V):Zoa Tryz.prog H 53 a=Z4b (some (false,1)) (Zwg H a) a:=Zva Zht H a
theorem Zvn:Zld Tryz.prog 53=some 1:=by kernel_rfl
@[go_sem] theorem Tryz.idx53 (a i:V):Zha Tryz.prog 53 a i=Zxo (some 1) a i:=Zua Zvn a i
@[go_sem] theorem Tryz.len53 (a:V):Z1n Tryz.prog 53 a=Zrm true a:=Z2b Zvn a
@[go_sem] theorem Tryz.bs53 (n:Nat) (l:List (Nat × V)):Zwc Tryz.prog 53 n l=bsK 1 [.str []] n l:=Zbc (P:=Tryz.prog) (t:=53) (e:=9) (m:=1) (z:=[.str []]) (by kernel_rfl) (by kernel_rfl) (by kernel_rfl) rfl n l
theorem Zpz:Zin Tryz.prog [53,53]=some (1,16):=by kernel_rfl
@[go_sem] theorem Tryz.appc53 (E:Ent) (ops:Array Oper) (Q:AS→Prop) (rest:List Oper) (e:Nat) (τ : Nat→V) (H:Heap) (a b:V):Z3z Tryz.prog E ops Q rest e τ H [53,53] a b=Zdt Tryz.prog E ops Q rest e τ H 1 16 a (Z4a H 1 b) (obS H a):=Zuj ops Zpz e a b
@[go_sem] theorem Tryz.bld55 (l:List (Nat × V)):Zsb Tryz.prog 55 l=(Zwb (Zdl [(0,1),(1,1)]) [.str [],.int .i64 0] l).map .agg:=Zob (P:=Tryz.prog) (t:=55) (tbl:=[(0,1),(1,1)]) (z:=[.str [],.int .i64 0]) (by kernel_rfl) (by kernel_rfl) l
theorem Z1t:Z8a Tryz.prog 55 0=some (0,false,1):=by kernel_rfl
@[go_sem] theorem Tryz.fa55_0 (a:V):Zp Tryz.prog 55 a 0=Z4d (some (0,false,1)) a:=Zm Z1t a
theorem Z0t:Z8a Tryz.prog 55 1=some (1,false,1):=by kernel_rfl
@[go_sem] theorem Tryz.fa55_1 (a:V):Zp Tryz.prog 55 a 1=Z4d (some (1,false,1)) a:=Zm Z0t a
theorem Zgt:Zta Tryz.prog 59=some (true,6):=by kernel_rfl
@[go_sem] theorem Tryz.load59 (H:Heap) (a:V):Zoa Tryz.prog H 59 a=Z4b (some (true,6)) (Zwg H a) a:=Zva Zgt H a
@[go_sem] theorem Tryz.sz59:Z5b Tryz.prog 59=some 6:=by kernel_rfl
@[go_sem] theorem Tryz.zero59:Zhe Tryz.prog 59=some [.int .u8 0,.int .i64 0,.str [],.int .i64 0,.int .i64 0,.int .i64 0]:=by kernel_rfl
@[go_sem] theorem Tryz.bld59 (l:List (Nat × V)):Zsb Tryz.prog 59 l=(Zwb (Zdl [(0,1),(1,1),(2,1),(3,1),(4,1),(5,1)]) [.int .u8 0,.int .i64 0,.str [],.int .i64 0,.int .i64 0,.int .i64 0] l).map .agg:=Zob (P:=Tryz.prog) (t:=59) (tbl:=[(0,1),(1,1),(2,1),(3,1),(4,1),(5,1)]) (z:=[.int .u8 0,.int .i64 0,.str [],.int .i64 0,.int .i64 0,.int .i64 0]) (by kernel_rfl) (by kernel_rfl) l
theorem Zzt:Z8a Tryz.prog 59 0=some (0,false,1):=by kernel_rfl
@[go_sem] theorem Tryz.fa59_0 (a:V):Zp Tryz.prog 59 a 0=Z4d (some (0,false,1)) a:=Zm Zzt a
theorem Zyt:Z8a Tryz.prog 59 1=some (1,false,1):=by kernel_rfl
@[go_sem] theorem Tryz.fa59_1 (a:V):Zp Tryz.prog 59 a 1=Z4d (some (1,false,1)) a:=Zm Zyt a
theorem Zxt:Z8a Tryz.prog 59 2=some (2,false,1):=by kernel_rfl
@[go_sem] theorem Tryz.fa59_2 (a:V):Zp Tryz.prog 59 a 2=Z4d (some (2,false,1)) a:=Zm Zxt a
theorem Zwt:Z8a Tryz.prog 59 3=some (3,false,1):=by kernel_rfl
@[go_sem] theorem Tryz.fa59_3 (a:V):Zp Tryz.prog 59 a 3=Z4d (some (3,false,1)) a:=Zm Zwt a
theorem Zvt:Z8a Tryz.prog 59 4=some (4,false,1):=by kernel_rfl
@[go_sem] theorem Tryz.fa59_4 (a:V):Zp Tryz.prog 59 a 4=Z4d (some (4,false,1)) a:=Zm Zvt a
theorem Zut:Z8a Tryz.prog 59 5=some (5,false,1):=by kernel_rfl
@[go_sem] theorem Tryz.fa59_5 (a:V):Zp Tryz.prog 59 a 5=Z4d (some (5,false,1)) a:=Zm Zut a
@[go_sem] theorem Tryz.bld80 (l:List (Nat × V)):Zsb Tryz.prog 80 l=(Zwb (Zdl [(0,1),(1,1)]) [.str [],.int .i64 0] l).map .agg:=Zob (P:=Tryz.prog) (t:=80) (tbl:=[(0,1),(1,1)]) (z:=[.str [],.int .i64 0]) (by kernel_rfl) (by kernel_rfl) l
theorem Ztt:Z8a Tryz.prog 80 0=some (0,false,1):=by kernel_rfl
@[go_sem] theorem Tryz.fa80_0 (a:V):Zp Tryz.prog 80 a 0=Z4d (some (0,false,1)) a:=Zm Ztt a
theorem Zst:Z8a Tryz.prog 80 1=some (1,false,1):=by kernel_rfl
@[go_sem] theorem Tryz.fa80_1 (a:V):Zp Tryz.prog 80 a 1=Z4d (some (1,false,1)) a:=Zm Zst a
theorem Z6v:Zld Tryz.prog 96=some 3:=by kernel_rfl
@[go_sem] theorem Tryz.idx96 (a i:V):Zha Tryz.prog 96 a i=Zxo (some 3) a i:=Zua Z6v a i
@[go_sem] theorem Tryz.bs96 (n:Nat) (l:List (Nat × V)):Zwc Tryz.prog 96 n l=bsK 3 [.int .u8 0,.int .i64 0,.bool false] n l:=Zbc (P:=Tryz.prog) (t:=96) (e:=34) (m:=3) (z:=[.int .u8 0,.int .i64 0,.bool false]) (by kernel_rfl) (by kernel_rfl) (by kernel_rfl) rfl n l
theorem Z5v:Zld Tryz.prog 97=some 1:=by kernel_rfl
@[go_sem] theorem Tryz.idx97 (a i:V):Zha Tryz.prog 97 a i=Zxo (some 1) a i:=Zua Z5v a i
@[go_sem] theorem Tryz.bs97 (n:Nat) (l:List (Nat × V)):Zwc Tryz.prog 97 n l=bsK 1 [.int .i64 0] n l:=Zbc (P:=Tryz.prog) (t:=97) (e:=30) (m:=1) (z:=[.int .i64 0]) (by kernel_rfl) (by kernel_rfl) (by kernel_rfl) rfl n l
theorem Zft:Zta Tryz.prog 99=some (true,3):=by kernel_rfl
@[go_sem] theorem Tryz.load99 (H:Heap) (a:V):Zoa Tryz.prog H 99 a=Z4b (some (true,3)) (Zwg H a) a:=Zva Zft H a
@[go_sem] theorem Tryz.bld99 (l:List (Nat × V)):Zsb Tryz.prog 99 l=(Zwb (Zdl [(0,1),(1,1),(2,1)]) [.str [],.int .i64 0,.int .i64 0] l).map .agg:=Zob (P:=Tryz.prog) (t:=99) (tbl:=[(0,1),(1,1),(2,1)]) (z:=[.str [],.int .i64 0,.int .i64 0]) (by kernel_rfl) (by kernel_rfl) l
theorem Zrt:Z8a Tryz.prog 99 0=some (0,false,1):=by kernel_rfl
@[go_sem] theorem Tryz.fa99_0 (a:V):Zp Tryz.prog 99 a 0=Z4d (some (0,false,1)) a:=Zm Zrt a
theorem Zqt:Z8a Tryz.prog 99 1=some (1,false,1):=by kernel_rfl
@[go_sem] theorem Tryz.fa99_1 (a:V):Zp Tryz.prog 99 a 1=Z4d (some (1,false,1)) a:=Zm Zqt a
theorem Zpt:Z8a Tryz.prog 99 2=some (2,false,1):=by kernel_rfl
@[go_sem] theorem Tryz.fa99_2 (a:V):Zp Tryz.prog 99 a 2=Z4d (some (2,false,1)) a:=Zm Zpt a
theorem Zyq:Zta Tryz.prog 100=some (true,69):=by kernel_rfl
@[go_sem] theorem Zl7 (H:Heap) (a:V):Zoa Tryz.prog H 100 a=Z4b (some (true,69)) (Zwg H a) a:=Zva Zyq H a
@[go_sem] theorem Tryz.sz100:Z5b Tryz.prog 100=some 69:=by kernel_rfl
@[go_sem] theorem Z66:Zhe Tryz.prog 100=some (.str [] :: .int .i64 0 :: .int .i64 0 :: .str [] :: .int .i64 0 :: .int .i64 0 :: .str [] :: .int .i64 0 :: .int .i64 0 :: .str [] :: .int .i64 0 :: .int .i64 0 :: .str [] :: .int .i64 0 :: .int .i64 0 :: .str [] :: .int .i64 0 :: .int .i64 0 :: .str [] :: .int .i64 0 :: .int .i64 0 :: .str [] :: .int .i64 0 :: .int .i64 0 :: .str [] :: .int .i64 0 :: .int .i64 0 :: .str [] :: .int .i64 0 :: .int .i64 0 :: .str [] :: .int .i64 0 :: .int .i64 0 :: .str [] :: .int .i64 0 :: .int .i64 0 :: .str [] :: .int .i64 0 :: .int .i64 0 :: .str [] :: .int .i64 0 :: .int .i64 0 :: .str [] :: .int .i64 0 :: .int .i64 0 :: .str [] :: .int .i64 0 :: .int .i64 0 :: .str [] :: .int .i64 0 :: .int .i64 0 :: .str [] :: .int .i64 0 :: .int .i64 0 :: .str [] :: .int .i64 0 :: .int .i64 0 :: .str [] :: .int .i64 0 :: .int .i64 0 :: .str [] :: .int .i64 0 :: .int .i64 0 :: .str [] :: .int .i64 0 :: .int .i64 0 :: .str [] :: .int .i64 0 :: .int .i64 0::[]):=by kernel_rfl
@[go_sem] theorem Tryz.ia100 (a:V) (ik:IntKind) (n:Int):Zha Tryz.prog 100 a (.int ik n)=idxA 23 3 true a ik n:=Z2g (P:=Tryz.prog) (e:=99) (by kernel_rfl) (by kernel_rfl) (by kernel_rfl) (by decide) a ik n
@[go_sem] theorem Tryz.bla100 (l:List (Nat × V)):Zsb Tryz.prog 100 l=(Zwb (mulP 3) (.str [] :: .int .i64 0 :: .int .i64 0 :: .str [] :: .int .i64 0 :: .int .i64 0 :: .str [] :: .int .i64 0 :: .int .i64 0 :: .str [] :: .int .i64 0 :: .int .i64 0 :: .str [] :: .int .i64 0 :: .int .i64 0 :: .str [] :: .int .i64 0 :: .int .i64 0 :: .str [] :: .int .i64 0 :: .int .i64 0 :: .str [] :: .int .i64 0 :: .int .i64 0 :: .str [] :: .int .i64 0 :: .int .i64 0 :: .str [] :: .int .i64 0 :: .int .i64 0 :: .str [] :: .int .i64 0 :: .int .i64 0 :: .str [] :: .int .i64 0 :: .int .i64 0 :: .str [] :: .int .i64 0 :: .int .i64 0 :: .str [] :: .int .i64 0 :: .int .i64 0 :: .str [] :: .int .i64 0 :: .int .i64 0 :: .str [] :: .int .i64 0 :: .int .i64 0 :: .str [] :: .int .i64 0 :: .int .i64 0 :: .str [] :: .int .i64 0 :: .int .i64 0 :: .str [] :: .int .i64 0 :: .int .i64 0 :: .str [] :: .int .i64 0 :: .int .i64 0 :: .str [] :: .int .i64 0 :: .int .i64 0 :: .str [] :: .int .i64 0 :: .int .i64 0 :: .str [] :: .int .i64 0 :: .int .i64 0::[]) l).map .agg:=Zcq (P:=Tryz.prog) (N:=23) (e:=99) (by kernel_rfl) (by kernel_rfl) (by kernel_rfl) l
theorem Zbh:Zld Tryz.prog 102=some 2:=by kernel_rfl
@[go_sem] theorem Tryz.idx102 (a i:V):Zha Tryz.prog 102 a i=Zxo (some 2) a i:=Zua Zbh a i
@[go_sem] theorem Tryz.len102 (a:V):Z1n Tryz.prog 102 a=Zrm true a:=Z2b Zbh a
@[go_sem] theorem Tryz.sl102 (a:V) (lo hi:Option V):Zkg Tryz.prog 102 a lo hi none=slK 2 a lo hi:=Zjp Zbh a lo hi
@[go_sem] theorem Tryz.bs102 (n:Nat) (l:List (Nat × V)):Zwc Tryz.prog 102 n l=bsK 2 [.int .i64 0,.int .i64 0] n l:=Zbc (P:=Tryz.prog) (t:=102) (e:=106) (m:=2) (z:=[.int .i64 0,.int .i64 0]) (by kernel_rfl) (by kernel_rfl) (by kernel_rfl) rfl n l
theorem Zaw:Zin Tryz.prog [102,102]=some (2,16):=by kernel_rfl
@[go_sem] theorem Zm8 (E:Ent) (ops:Array Oper) (Q:AS→Prop) (rest:List Oper) (e:Nat) (τ : Nat→V) (H:Heap) (a b:V):Z3z Tryz.prog E ops Q rest e τ H [102,102] a b=Zdt Tryz.prog E ops Q rest e τ H 2 16 a (Z4a H 2 b) (obS H a):=Zuj ops Zaw e a b
theorem Zxq:Zta Tryz.prog 104=some (false,1):=by kernel_rfl
@[go_sem] theorem Zk7 (H:Heap) (a:V):Zoa Tryz.prog H 104 a=Z4b (some (false,1)) (Zwg H a) a:=Zva Zxq H a
@[go_sem] theorem Tryz.sz104:Z5b Tryz.prog 104=some 1:=by kernel_rfl
theorem Zah:Zld Tryz.prog 104=some 1:=by kernel_rfl
@[go_sem] theorem Tryz.idx104 (a i:V):Zha Tryz.prog 104 a i=Zxo (some 1) a i:=Zua Zah a i
@[go_sem] theorem Tryz.len104 (a:V):Z1n Tryz.prog 104 a=Zrm true a:=Z2b Zah a
@[go_sem] theorem Tryz.sl104 (a:V) (lo hi:Option V):Zkg Tryz.prog 104 a lo hi none=slK 1 a lo hi:=Zjp Zah a lo hi
@[go_sem] theorem Tryz.bs104 (n:Nat) (l:List (Nat × V)):Zwc Tryz.prog 104 n l=bsK 1 [.int .i64 0] n l:=Zbc (P:=Tryz.prog) (t:=104) (e:=3) (m:=1) (z:=[.int .i64 0]) (by kernel_rfl) (by kernel_rfl) (by kernel_rfl) rfl n l
@[go_sem] theorem Tryz.ms104 (a b:V):Zom Tryz.prog 104 a b=msK 1 8 [.int .i64 0] a b:=Zr1 (P:=Tryz.prog) (t:=104) (e:=3) (E:=1) (bytes:=8) (z:=[.int .i64 0]) (by kernel_rfl) (by kernel_rfl) (by kernel_rfl) (by kernel_rfl) rfl a b
theorem Z9v:Zin Tryz.prog [104,104]=some (1,8):=by kernel_rfl
@[go_sem] theorem Zl8 (E:Ent) (ops:Array Oper) (Q:AS→Prop) (rest:List Oper) (e:Nat) (τ : Nat→V) (H:Heap) (a b:V):Z3z Tryz.prog E ops Q rest e τ H [104,104] a b=Zdt Tryz.prog E ops Q rest e τ H 1 8 a (Z4a H 1 b) (obS H a):=Zuj ops Z9v e a b
theorem Zwq:Zta Tryz.prog 106=some (true,2):=by kernel_rfl
@[go_sem] theorem Zj7 (H:Heap) (a:V):Zoa Tryz.prog H 106 a=Z4b (some (true,2)) (Zwg H a) a:=Zva Zwq H a
@[go_sem] theorem Tryz.sz106:Z5b Tryz.prog 106=some 2:=by kernel_rfl
@[go_sem] theorem Z56:Zhe Tryz.prog 106=some [.int .i64 0,.int .i64 0]:=by kernel_rfl
@[go_sem] theorem Tryz.bld106 (l:List (Nat × V)):Zsb Tryz.prog 106 l=(Zwb (Zdl [(0,1),(1,1)]) [.int .i64 0,.int .i64 0] l).map .agg:=Zob (P:=Tryz.prog) (t:=106) (tbl:=[(0,1),(1,1)]) (z:=[.int .i64 0,.int .i64 0]) (by kernel_rfl) (by kernel_rfl) l
theorem Zrr:Z8a Tryz.prog 106 0=some (0,false,1):=by kernel_rfl
@[go_sem] theorem Zg8 (a:V):Zp Tryz.prog 106 a 0=Z4d (some (0,false,1)) a:=Zm Zrr a
theorem Zqr:Z8a Tryz.prog 106 1=some (1,false,1):=by kernel_rfl
@[go_sem] theorem Zf8 (a:V):Zp Tryz.prog 106 a 1=Z4d (some (1,false,1)) a:=Zm Zqr a
theorem Zvq:Zta Tryz.prog 109=some (true,6):=by kernel_rfl
@[go_sem] theorem Zi7 (H:Heap) (a:V):Zoa Tryz.prog H 109 a=Z4b (some (true,6)) (Zwg H a) a:=Zva Zvq H a
@[go_sem] theorem Tryz.sz109:Z5b Tryz.prog 109=some 6:=by kernel_rfl
@[go_sem] theorem Z46:Zhe Tryz.prog 109=some [.int .u8 0,.int .i64 0,.str [],.int .i64 0,.int .i64 0,.int .i64 0]:=by kernel_rfl
@[go_sem] theorem Tryz.bld109 (l:List (Nat × V)):Zsb Tryz.prog 109 l=(Zwb (Zdl [(0,1),(1,1),(2,1),(3,1),(4,1),(5,1)]) [.int .u8 0,.int .i64 0,.str [],.int .i64 0,.int .i64 0,.int .i64 0] l).map .agg:=Zob (P:=Tryz.prog) (t:=109) (tbl:=[(0,1),(1,1),(2,1),(3,1),(4,1),(5,1)]) (z:=[.int .u8 0,.int .i64 0,.str [],.int .i64 0,.int .i64 0,.int .i64 0]) (by kernel_rfl) (by kernel_rfl) l
theorem Zpr:Z8a Tryz.prog 109 0=some (0,false,1):=by kernel_rfl
@[go_sem] theorem Ze8 (a:V):Zp Tryz.prog 109 a 0=Z4d (some (0,false,1)) a:=Zm Zpr a
theorem Zor:Z8a Tryz.prog 109 1=some (1,false,1):=by kernel_rfl
@[go_sem] theorem Zd8 (a:V):Zp Tryz.prog 109 a 1=Z4d (some (1,false,1)) a:=Zm Zor a
theorem Znr:Z8a Tryz.prog 109 2=some (2,false,1):=by kernel_rfl
@[go_sem] theorem Zc8 (a:V):Zp Tryz.prog 109 a 2=Z4d (some (2,false,1)) a:=Zm Znr a
theorem Zmr:Z8a Tryz.prog 109 3=some (3,false,1):=by kernel_rfl
@[go_sem] theorem Zb8 (a:V):Zp Tryz.prog 109 a 3=Z4d (some (3,false,1)) a:=Zm Zmr a
theorem Zlr:Z8a Tryz.prog 109 4=some (4,false,1):=by kernel_rfl
@[go_sem] theorem Za8 (a:V):Zp Tryz.prog 109 a 4=Z4d (some (4,false,1)) a:=Zm Zlr a
theorem Zkr:Z8a Tryz.prog 109 5=some (5,false,1):=by kernel_rfl
@[go_sem] theorem Z97 (a:V):Zp Tryz.prog 109 a 5=Z4d (some (5,false,1)) a:=Zm Zkr a
theorem Zuq:Zta Tryz.prog 112=some (true,2):=by kernel_rfl
@[go_sem] theorem Zh7 (H:Heap) (a:V):Zoa Tryz.prog H 112 a=Z4b (some (true,2)) (Zwg H a) a:=Zva Zuq H a
@[go_sem] theorem Tryz.bld112 (l:List (Nat × V)):Zsb Tryz.prog 112 l=(Zwb (Zdl [(0,1),(1,1)]) [.nils,.nils] l).map .agg:=Zob (P:=Tryz.prog) (t:=112) (tbl:=[(0,1),(1,1)]) (z:=[.nils,.nils]) (by kernel_rfl) (by kernel_rfl) l
theorem Zjr:Z8a Tryz.prog 112 0=some (0,false,1):=by kernel_rfl
@[go_sem] theorem Z87 (a:V):Zp Tryz.prog 112 a 0=Z4d (some (0,false,1)) a:=Zm Zjr a
theorem Zir:Z8a Tryz.prog 112 1=some (1,false,1):=by kernel_rfl
@[go_sem] theorem Z77 (a:V):Zp Tryz.prog 112 a 1=Z4d (some (1,false,1)) a:=Zm Zir a
theorem Ztq:Zta Tryz.prog 116=some (false,1):=by kernel_rfl
@[go_sem] theorem Zg7 (H:Heap) (a:V):Zoa Tryz.prog H 116 a=Z4b (some (false,1)) (Zwg H a) a:=Zva Ztq H a
theorem Zbl:Zld Tryz.prog 116=some 3:=by kernel_rfl
@[go_sem] theorem Tryz.idx116 (a i:V):Zha Tryz.prog 116 a i=Zxo (some 3) a i:=Zua Zbl a i
@[go_sem] theorem Tryz.len116 (a:V):Z1n Tryz.prog 116 a=Zrm true a:=Z2b Zbl a
@[go_sem] theorem Tryz.bs116 (n:Nat) (l:List (Nat × V)):Zwc Tryz.prog 116 n l=bsK 3 [.int .u8 0,.str [],.int .i64 0] n l:=Zbc (P:=Tryz.prog) (t:=116) (e:=121) (m:=3) (z:=[.int .u8 0,.str [],.int .i64 0]) (by kernel_rfl) (by kernel_rfl) (by kernel_rfl) rfl n l
theorem Z8v:Zin Tryz.prog [116,116]=some (3,32):=by kernel_rfl
@[go_sem] theorem Zk8 (E:Ent) (ops:Array Oper) (Q:AS→Prop) (rest:List Oper) (e:Nat) (τ : Nat→V) (H:Heap) (a b:V):Z3z Tryz.prog E ops Q rest e τ H [116,116] a b=Zdt Tryz.prog E ops Q rest e τ H 3 32 a (Z4a H 3 b) (obS H a):=Zuj ops Z8v e a b
theorem Zsq:Zta Tryz.prog 121=some (true,3):=by kernel_rfl
@[go_sem] theorem Zf7 (H:Heap) (a:V):Zoa Tryz.prog H 121 a=Z4b (some (true,3)) (Zwg H a) a:=Zva Zsq H a
@[go_sem] theorem Tryz.sz121:Z5b Tryz.prog 121=some 3:=by kernel_rfl
@[go_sem] theorem Z36:Zhe Tryz.prog 121=some [.int .u8 0,.str [],.int .i64 0]:=by kernel_rfl
@[go_sem] theorem Tryz.bld121 (l:List (Nat × V)):Zsb Tryz.prog 121 l=(Zwb (Zdl [(0,1),(1,1),(2,1)]) [.int .u8 0,.str [],.int .i64 0] l).map .agg:=Zob (P:=Tryz.prog) (t:=121) (tbl:=[(0,1),(1,1),(2,1)]) (z:=[.int .u8 0,.str [],.int .i64 0]) (by kernel_rfl) (by kernel_rfl) l
theorem Zhr:Z8a Tryz.prog 121 0=some (0,false,1):=by kernel_rfl
@[go_sem] theorem Z67 (a:V):Zp Tryz.prog 121 a 0=Z4d (some (0,false,1)) a:=Zm Zhr a
theorem Zgr:Z8a Tryz.prog 121 1=some (1,false,1):=by kernel_rfl
@[go_sem] theorem Z57 (a:V):Zp Tryz.prog 121 a 1=Z4d (some (1,false,1)) a:=Zm Zgr a
theorem Zfr:Z8a Tryz.prog 121 2=some (2,false,1):=by kernel_rfl
@[go_sem] theorem Z47 (a:V):Zp Tryz.prog 121 a 2=Z4d (some (2,false,1)) a:=Zm Zfr a
theorem Zrq:Zta Tryz.prog 122=some (false,1):=by kernel_rfl
@[go_sem] theorem Ze7 (H:Heap) (a:V):Zoa Tryz.prog H 122 a=Z4b (some (false,1)) (Zwg H a) a:=Zva Zrq H a
theorem Zal:Zld Tryz.prog 122=some 1:=by kernel_rfl
@[go_sem] theorem Tryz.idx122 (a i:V):Zha Tryz.prog 122 a i=Zxo (some 1) a i:=Zua Zal a i
@[go_sem] theorem Tryz.len122 (a:V):Z1n Tryz.prog 122 a=Zrm true a:=Z2b Zal a
@[go_sem] theorem Tryz.bs122 (n:Nat) (l:List (Nat × V)):Zwc Tryz.prog 122 n l=bsK 1 [.int .u8 0] n l:=Zbc (P:=Tryz.prog) (t:=122) (e:=5) (m:=1) (z:=[.int .u8 0]) (by kernel_rfl) (by kernel_rfl) (by kernel_rfl) rfl n l
theorem Z7v:Zin Tryz.prog [122,122]=some (1,1):=by kernel_rfl
@[go_sem] theorem Zj8 (E:Ent) (ops:Array Oper) (Q:AS→Prop) (rest:List Oper) (e:Nat) (τ : Nat→V) (H:Heap) (a b:V):Z3z Tryz.prog E ops Q rest e τ H [122,122] a b=Zdt Tryz.prog E ops Q rest e τ H 1 1 a (Z4a H 1 b) (obS H a):=Zuj ops Z7v e a b
@[go_sem] theorem Tryz.sz152:Z5b Tryz.prog 152=some 1:=by kernel_rfl
@[go_sem] theorem Z26:Zhe Tryz.prog 152=some [.int .i64 0]:=by kernel_rfl
@[go_sem] theorem Tryz.bld152 (l:List (Nat × V)):Zsb Tryz.prog 152 l=(Zwb (Zdl [(0,1)]) [.int .i64 0] l).map .agg:=Zob (P:=Tryz.prog) (t:=152) (tbl:=[(0,1)]) (z:=[.int .i64 0]) (by kernel_rfl) (by kernel_rfl) l
theorem Zer:Z8a Tryz.prog 152 0=some (0,false,1):=by kernel_rfl
@[go_sem] theorem Z37 (a:V):Zp Tryz.prog 152 a 0=Z4d (some (0,false,1)) a:=Zm Zer a
theorem Zqq:Zta Tryz.prog 155=some (false,1):=by kernel_rfl
@[go_sem] theorem Zd7 (H:Heap) (a:V):Zoa Tryz.prog H 155 a=Z4b (some (false,1)) (Zwg H a) a:=Zva Zqq H a
@[go_sem] theorem Tryz.bld157 (l:List (Nat × V)):Zsb Tryz.prog 157 l=(Zwb (Zdl [(0,1),(1,1)]) [.nils,.nilm] l).map .agg:=Zob (P:=Tryz.prog) (t:=157) (tbl:=[(0,1),(1,1)]) (z:=[.nils,.nilm]) (by kernel_rfl) (by kernel_rfl) l
theorem Zdr:Z8a Tryz.prog 157 0=some (0,false,1):=by kernel_rfl
@[go_sem] theorem Z27 (a:V):Zp Tryz.prog 157 a 0=Z4d (some (0,false,1)) a:=Zm Zdr a
theorem Zcr:Z8a Tryz.prog 157 1=some (1,false,1):=by kernel_rfl
@[go_sem] theorem Z17 (a:V):Zp Tryz.prog 157 a 1=Z4d (some (1,false,1)) a:=Zm Zcr a
theorem Zpq:Zta Tryz.prog 169=some (false,1):=by kernel_rfl
@[go_sem] theorem Zc7 (H:Heap) (a:V):Zoa Tryz.prog H 169 a=Z4b (some (false,1)) (Zwg H a) a:=Zva Zpq H a
@[go_sem] theorem Tryz.bld171 (l:List (Nat × V)):Zsb Tryz.prog 171 l=(Zwb (Zdl [(0,1),(1,1),(2,1),(3,1),(4,1)]) [.nils,.int .i64 0,.nils,.int .i64 0,.nilf] l).map .agg:=Zob (P:=Tryz.prog) (t:=171) (tbl:=[(0,1),(1,1),(2,1),(3,1),(4,1)]) (z:=[.nils,.int .i64 0,.nils,.int .i64 0,.nilf]) (by kernel_rfl) (by kernel_rfl) l
theorem Zbr:Z8a Tryz.prog 171 0=some (0,false,1):=by kernel_rfl
@[go_sem] theorem Z07 (a:V):Zp Tryz.prog 171 a 0=Z4d (some (0,false,1)) a:=Zm Zbr a
theorem Zar:Z8a Tryz.prog 171 1=some (1,false,1):=by kernel_rfl
@[go_sem] theorem Zz7 (a:V):Zp Tryz.prog 171 a 1=Z4d (some (1,false,1)) a:=Zm Zar a
theorem Z9q:Z8a Tryz.prog 171 2=some (2,false,1):=by kernel_rfl
@[go_sem] theorem Zy7 (a:V):Zp Tryz.prog 171 a 2=Z4d (some (2,false,1)) a:=Zm Z9q a
theorem Z8q:Z8a Tryz.prog 171 3=some (3,false,1):=by kernel_rfl
@[go_sem] theorem Zx7 (a:V):Zp Tryz.prog 171 a 3=Z4d (some (3,false,1)) a:=Zm Z8q a
theorem Z7q:Z8a Tryz.prog 171 4=some (4,false,1):=by kernel_rfl
@[go_sem] theorem Zw7 (a:V):Zp Tryz.prog 171 a 4=Z4d (some (4,false,1)) a:=Zm Z7q a
theorem Zoq:Zta Tryz.prog 173=some (true,3):=by kernel_rfl
@[go_sem] theorem Zb7 (H:Heap) (a:V):Zoa Tryz.prog H 173 a=Z4b (some (true,3)) (Zwg H a) a:=Zva Zoq H a
@[go_sem] theorem Tryz.sz173:Z5b Tryz.prog 173=some 3:=by kernel_rfl
@[go_sem] theorem Z16:Zhe Tryz.prog 173=some [.int .u8 0,.int .u8 0,.int .u8 0]:=by kernel_rfl
@[go_sem] theorem Tryz.bld173 (l:List (Nat × V)):Zsb Tryz.prog 173 l=(Zwb (Zdl [(0,1),(1,1),(2,1)]) [.int .u8 0,.int .u8 0,.int .u8 0] l).map .agg:=Zob (P:=Tryz.prog) (t:=173) (tbl:=[(0,1),(1,1),(2,1)]) (z:=[.int .u8 0,.int .u8 0,.int .u8 0]) (by kernel_rfl) (by kernel_rfl) l
theorem Z6q:Z8a Tryz.prog 173 0=some (0,false,1):=by kernel_rfl
@[go_sem] theorem Zv7 (a:V):Zp Tryz.prog 173 a 0=Z4d (some (0,false,1)) a:=Zm Z6q a
theorem Z5q:Z8a Tryz.prog 173 1=some (1,false,1):=by kernel_rfl
@[go_sem] theorem Zu7 (a:V):Zp Tryz.prog 173 a 1=Z4d (some (1,false,1)) a:=Zm Z5q a
theorem Z4q:Z8a Tryz.prog 173 2=some (2,false,1):=by kernel_rfl
@[go_sem] theorem Zt7 (a:V):Zp Tryz.prog 173 a 2=Z4d (some (2,false,1)) a:=Zm Z4q a
theorem Znq:Zta Tryz.prog 175=some (true,4):=by kernel_rfl
@[go_sem] theorem Za7 (H:Heap) (a:V):Zoa Tryz.prog H 175 a=Z4b (some (true,4)) (Zwg H a) a:=Zva Znq H a
@[go_sem] theorem Tryz.sz175:Z5b Tryz.prog 175=some 4:=by kernel_rfl
@[go_sem] theorem Z06:Zhe Tryz.prog 175=some [.int .u8 0,.int .u8 0,.int .u8 0,.int .u8 0]:=by kernel_rfl
@[go_sem] theorem Tryz.bld175 (l:List (Nat × V)):Zsb Tryz.prog 175 l=(Zwb (Zdl [(0,3),(3,1)]) [.int .u8 0,.int .u8 0,.int .u8 0,.int .u8 0] l).map .agg:=Zob (P:=Tryz.prog) (t:=175) (tbl:=[(0,3),(3,1)]) (z:=[.int .u8 0,.int .u8 0,.int .u8 0,.int .u8 0]) (by kernel_rfl) (by kernel_rfl) l
theorem Z3q:Z8a Tryz.prog 175 0=some (0,true,3):=by kernel_rfl
@[go_sem] theorem Zs7 (a:V):Zp Tryz.prog 175 a 0=Z4d (some (0,true,3)) a:=Zm Z3q a
theorem Z2q:Z8a Tryz.prog 175 1=some (3,false,1):=by kernel_rfl
@[go_sem] theorem Zr7 (a:V):Zp Tryz.prog 175 a 1=Z4d (some (3,false,1)) a:=Zm Z2q a
theorem Zmq:Zta Tryz.prog 176=some (true,92):=by kernel_rfl
@[go_sem] theorem Z96 (H:Heap) (a:V):Zoa Tryz.prog H 176 a=Z4b (some (true,92)) (Zwg H a) a:=Zva Zmq H a
@[go_sem] theorem Tryz.sz176:Z5b Tryz.prog 176=some 92:=by kernel_rfl
@[go_sem] theorem Zz6:Zhe Tryz.prog 176=some (.int .u8 0 :: .int .u8 0 :: .int .u8 0 :: .int .u8 0 :: .int .u8 0 :: .int .u8 0 :: .int .u8 0 :: .int .u8 0 :: .int .u8 0 :: .int .u8 0 :: .int .u8 0 :: .int .u8 0 :: .int .u8 0 :: .int .u8 0 :: .int .u8 0 :: .int .u8 0 :: .int .u8 0 :: .int .u8 0 :: .int .u8 0 :: .int .u8 0 :: .int .u8 0 :: .int .u8 0 :: .int .u8 0 :: .int .u8 0 :: .int .u8 0 :: .int .u8 0 :: .int .u8 0 :: .int .u8 0 :: .int .u8 0 :: .int .u8 0 :: .int .u8 0 :: .int .u8 0 :: .int .u8 0 :: .int .u8 0 :: .int .u8 0 :: .int .u8 0 :: .int .u8 0 :: .int .u8 0 :: .int .u8 0 :: .int .u8 0 :: .int .u8 0 :: .int .u8 0 :: .int .u8 0 :: .int .u8 0 :: .int .u8 0 :: .int .u8 0 :: .int .u8 0 :: .int .u8 0 :: .int .u8 0 :: .int .u8 0 :: .int .u8 0 :: .int .u8 0 :: .int .u8 0 :: .int .u8 0 :: .int .u8 0 :: .int .u8 0 :: .int .u8 0 :: .int .u8 0 :: .int .u8 0 :: .int .u8 0 :: .int .u8 0 :: .int .u8 0 :: .int .u8 0 :: .int .u8 0 :: .int .u8 0 :: .int .u8 0 :: .int .u8 0 :: .int .u8 0 :: .int .u8 0 :: .int .u8 0 :: .int .u8 0 :: .int .u8 0 :: .int .u8 0 :: .int .u8 0 :: .int .u8 0 :: .int .u8 0 :: .int .u8 0 :: .int .u8 0 :: .int .u8 0 :: .int .u8 0 :: .int .u8 0 :: .int .u8 0 :: .int .u8 0 :: .int .u8 0 :: .int .u8 0 :: .int .u8 0 :: .int .u8 0 :: .int .u8 0 :: .int .u8 0 :: .int .u8 0 :: .int .u8 0 :: .int .u8 0::[]):=by kernel_rfl
@[go_sem] theorem Tryz.ia176 (a:V) (ik:IntKind) (n:Int):Zha Tryz.prog 176 a (.int ik n)=idxA 23 4 true a ik n:=Z2g (P:=Tryz.prog) (e:=175) (by kernel_rfl) (by kernel_rfl) (by kernel_rfl) (by decide) a ik n
@[go_sem] theorem Tryz.bla176 (l:List (Nat × V)):Zsb Tryz.prog 176 l=(Zwb (mulP 4) (.int .u8 0 :: .int .u8 0 :: .int .u8 0 :: .int .u8 0 :: .int .u8 0 :: .int .u8 0 :: .int .u8 0 :: .int .u8 0 :: .int .u8 0 :: .int .u8 0 :: .int .u8 0 :: .int .u8 0 :: .int .u8 0 :: .int .u8 0 :: .int .u8 0 :: .int .u8 0 :: .int .u8 0 :: .int .u8 0 :: .int .u8 0 :: .int .u8 0 :: .int .u8 0 :: .int .u8 0 :: .int .u8 0 :: .int .u8 0 :: .int .u8 0 :: .int .u8 0 :: .int .u8 0 :: .int .u8 0 :: .int .u8 0 :: .int .u8 0 :: .int .u8 0 :: .int .u8 0 :: .int .u8 0 :: .int .u8 0 :: .int .u8 0 :: .int .u8 0 :: .int .u8 0 :: .int .u8 0 :: .int .u8 0 :: .int .u8 0 :: .int .u8 0 :: .int .u8 0 :: .int .u8 0 :: .int .u8 0 :: .int .u8 0 :: .int .u8 0 :: .int .u8 0 :: .int .u8 0 :: .int .u8 0 :: .int .u8 0 :: .int .u8 0 :: .int .u8 0 :: .int .u8 0 :: .int .u8 0 :: .int .u8 0 :: .int .u8 0 :: .int .u8 0 :: .int .u8 0 :: .int .u8 0 :: .int .u8 0 :: .int .u8 0 :: .int .u8 0 :: .int .u8 0 :: .int .u8 0 :: .int .u8 0 :: .int .u8 0 :: .int .u8 0 :: .int .u8 0 :: .int .u8 0 :: .int .u8 0 :: .int .u8 0 :: .int .u8 0 :: .int .u8 0 :: .int .u8 0 :: .int .u8 0 :: .int .u8 0 :: .int .u8 0 :: .int .u8 0 :: .int .u8 0 :: .int .u8 0 :: .int .u8 0 :: .int .u8 0 :: .int .u8 0 :: .int .u8 0 :: .int .u8 0 :: .int .u8 0 :: .int .u8 0 :: .int .u8 0 :: .int .u8 0 :: .int .u8 0 :: .int .u8 0 :: .int .u8 0::[]) l).map .agg:=Zcq (P:=Tryz.prog) (N:=23) (e:=175) (by kernel_rfl) (by kernel_rfl) (by kernel_rfl) l
theorem Zlq:Zta Tryz.prog 179=some (true,93):=by kernel_rfl
@[go_sem] theorem Z86 (H:Heap) (a:V):Zoa Tryz.prog H 179 a=Z4b (some (true,93)) (Zwg H a) a:=Zva Zlq H a
@[go_sem] theorem Tryz.sz179:Z5b Tryz.prog 179=some 93:=by kernel_rfl
theorem Z1q:Z8a Tryz.prog 179 0=some (0,true,92):=by kernel_rfl
@[go_sem] theorem Zq7 (a:V):Zp Tryz.prog 179 a 0=Z4d (some (0,true,92)) a:=Zm Z1q a
theorem Z0q:Z8a Tryz.prog 179 1=some (92,false,1):=by kernel_rfl
@[go_sem] theorem Zp7 (a:V):Zp Tryz.prog 179 a 1=Z4d (some (92,false,1)) a:=Zm Z0q a
theorem Zkq:Zta Tryz.prog 204=some (true,2):=by kernel_rfl
@[go_sem] theorem Z76 (H:Heap) (a:V):Zoa Tryz.prog H 204 a=Z4b (some (true,2)) (Zwg H a) a:=Zva Zkq H a
@[go_sem] theorem Tryz.sz204:Z5b Tryz.prog 204=some 2:=by kernel_rfl
@[go_sem] theorem Zy6:Zhe Tryz.prog 204=some [.nils,.bool false]:=by kernel_rfl
@[go_sem] theorem Tryz.bld204 (l:List (Nat × V)):Zsb Tryz.prog 204 l=(Zwb (Zdl [(0,1),(1,1)]) [.nils,.bool false] l).map .agg:=Zob (P:=Tryz.prog) (t:=204) (tbl:=[(0,1),(1,1)]) (z:=[.nils,.bool false]) (by kernel_rfl) (by kernel_rfl) l
theorem Zwj:Z8a Tryz.prog 204 0=some (0,false,1):=by kernel_rfl
@[go_sem] theorem Zo7 (a:V):Zp Tryz.prog 204 a 0=Z4d (some (0,false,1)) a:=Zm Zwj a
@[go_sem] theorem Zm7 (l:List V):Zqj Tryz.prog 204 (.agg l) 0=Zvh false 1 l 0:=Z3p Zwj l
theorem Zzq:Z8a Tryz.prog 204 1=some (1,false,1):=by kernel_rfl
@[go_sem] theorem Zn7 (a:V):Zp Tryz.prog 204 a 1=Z4d (some (1,false,1)) a:=Zm Zzq a
@[go_sem] theorem Tryz.ia212 (a:V) (ik:IntKind) (n:Int):Zha Tryz.prog 212 a (.int ik n)=idxA 14 1 false a ik n:=Z2g (P:=Tryz.prog) (e:=9) (by kernel_rfl) (by kernel_rfl) (by kernel_rfl) (by decide) a ik n
theorem Z9k:Zld Tryz.prog 249=some 3:=by kernel_rfl
@[go_sem] theorem Tryz.idx249 (a i:V):Zha Tryz.prog 249 a i=Zxo (some 3) a i:=Zua Z9k a i
@[go_sem] theorem Tryz.len249 (a:V):Z1n Tryz.prog 249 a=Zrm true a:=Z2b Z9k a
@[go_sem] theorem Tryz.iv261 (l:List V) (ik:IntKind) (n:Int):Z0h Tryz.prog 261 (.agg l) (.int ik n)=if 0≤n∧n<(3:Nat) then Zvh false 1 l (n.toNat * 1) else none:=Zb5 (P:=Tryz.prog) (e:=9) (by kernel_rfl) (by kernel_rfl) (by kernel_rfl) (by decide) l ik n
@[go_sem] theorem Tryz.bla261 (l:List (Nat × V)):Zsb Tryz.prog 261 l=(Zwb (mulP 1) [.str [],.str [],.str []] l).map .agg:=Zcq (P:=Tryz.prog) (N:=3) (e:=9) (by kernel_rfl) (by kernel_rfl) (by kernel_rfl) l
@[go_sem] theorem Zh8 (k:IntKind) (n:Int):Z7p Tryz.prog 2 262 (.int k n)=some (.int .u64 (IntKind.wrap .u64 n)):=Z6p (P:=Tryz.prog) (s:=2) (d:=262) (by kernel_rfl) (by kernel_rfl) k n
@[go_sem] theorem Tryz.cv3_5 (k:IntKind) (n:Int):Z7p Tryz.prog 3 5 (.int k n)=some (.int .u8 (IntKind.wrap .u8 n)):=Z6p (P:=Tryz.prog) (s:=3) (d:=5) (by kernel_rfl) (by kernel_rfl) k n
@[go_sem] theorem Zi8 (k:IntKind) (n:Int):Z7p Tryz.prog 262 2 (.int k n)=some (.int .i64 (IntKind.wrap .i64 n)):=Z6p (P:=Tryz.prog) (s:=262) (d:=2) (by kernel_rfl) (by kernel_rfl) k n
end Go.Hs
end
