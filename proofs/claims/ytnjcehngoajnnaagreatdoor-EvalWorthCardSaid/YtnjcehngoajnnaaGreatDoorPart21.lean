/- Part 21 of the proof of a statement of seat YtnjcehngoajnnaaGreatDoor: HsFactsG. -/
import Derived.Test.YtnjcehngoajnnaaGreatDoorPart20
import Derived.Test.YtnjcehngoajnnaaGreatDoorProg
import Derived.KernelRfl
set_option linter.unusedSimpArgs false
set_option linter.unusedVariables false
section
namespace Go.Hs
open Go.Proofs
theorem Tryz.shape2:shapeOf Tryz.prog 2=some (false,1):=by kernel_rfl
@[go_sem] theorem Tryz.load2 (H:Heap) (a:V):readV Tryz.prog H 2 a=loadK (some (false,1)) (obOf H a) a:=readV_K Tryz.shape2 H a
theorem Tryz.shape3:shapeOf Tryz.prog 3=some (false,1):=by kernel_rfl
@[go_sem] theorem Tryz.load3 (H:Heap) (a:V):readV Tryz.prog H 3 a=loadK (some (false,1)) (obOf H a) a:=readV_K Tryz.shape3 H a
@[go_sem] theorem Tryz.sz3:szOf Tryz.prog 3=some 1:=by kernel_rfl
theorem Tryz.shape4:shapeOf Tryz.prog 4=some (false,1):=by kernel_rfl
@[go_sem] theorem Tryz.load4 (H:Heap) (a:V):readV Tryz.prog H 4 a=loadK (some (false,1)) (obOf H a) a:=readV_K Tryz.shape4 H a
@[go_sem] theorem Tryz.eqb4 (a b:Bool):binV Tryz.prog .eql 4 (.bool a) (.bool b)=some (.bool (a==b)):=(binV_bool (P:=Tryz.prog) (by kernel_rfl) a b).1
@[go_sem] theorem Tryz.neb4 (a b:Bool):binV Tryz.prog .neq 4 (.bool a) (.bool b)=some (.bool (a != b)):=(binV_bool (P:=Tryz.prog) (by kernel_rfl) a b).2
theorem Tryz.shape5:shapeOf Tryz.prog 5=some (false,1):=by kernel_rfl
@[go_sem] theorem Tryz.load5 (H:Heap) (a:V):readV Tryz.prog H 5 a=loadK (some (false,1)) (obOf H a) a:=readV_K Tryz.shape5 H a
theorem Tryz.shape9:shapeOf Tryz.prog 9=some (false,1):=by kernel_rfl
@[go_sem] theorem Tryz.load9 (H:Heap) (a:V):readV Tryz.prog H 9 a=loadK (some (false,1)) (obOf H a) a:=readV_K Tryz.shape9 H a
theorem Tryz.str9:isStr Tryz.prog 9=true:=by kernel_rfl
@[go_sem] theorem Tryz.len9 (a:V):lenV Tryz.prog 9 a=lenK false a:=lenV_str Tryz.str9 a
@[go_sem] theorem Tryz.ixs9 (s:List UInt8) (k:IntKind) (n:Int):indexV Tryz.prog 9 (.str s) (.int k n)=if 0≤n then (s[n.toNat]?).map fun b => .int .u8 b.toNat else none:=indexV_str Tryz.str9 s k n
@[go_sem] theorem Tryz.sls9 (s:List UInt8) (lo hi:Option V):sliceV Tryz.prog 9 (.str s) lo hi none=slJ (boundV 0 lo) (boundV s.length hi) fun i j=>if i≤j∧j≤s.length then some (.str ((s.drop i).take (j-i))) else none:=sliceV_str Tryz.str9 s lo hi
theorem Tryz.shape22:shapeOf Tryz.prog 22=some (false,1):=by kernel_rfl
@[go_sem] theorem Tryz.load22 (H:Heap) (a:V):readV Tryz.prog H 22 a=loadK (some (false,1)) (obOf H a) a:=readV_K Tryz.shape22 H a
@[go_sem] theorem Tryz.sz22:szOf Tryz.prog 22=some 1:=by kernel_rfl
theorem Tryz.elem22:elemOf Tryz.prog 22=some 6:=by kernel_rfl
@[go_sem] theorem Tryz.idx22 (a i:V):indexAddrV Tryz.prog 22 a i=idxK (some 6) a i:=indexAddrV_K Tryz.elem22 a i
@[go_sem] theorem Tryz.len22 (a:V):lenV Tryz.prog 22 a=lenK true a:=lenV_slice Tryz.elem22 a
@[go_sem] theorem Tryz.bs22 (n:Nat) (l:List (Nat × V)):bsCells Tryz.prog 22 n l=bsK 6 [.int .u8 0,.int .i64 0,.str [],.int .i64 0,.int .i64 0,.int .i64 0] n l:=bsCells_K (P:=Tryz.prog) (t:=22) (e:=59) (m:=6) (z:=[.int .u8 0,.int .i64 0,.str [],.int .i64 0,.int .i64 0,.int .i64 0]) (by kernel_rfl) (by kernel_rfl) (by kernel_rfl) rfl n l
theorem Tryz.app22:appOf Tryz.prog [22,22]=some (6,56):=by kernel_rfl
@[go_sem] theorem Tryz.appc22 (E:Ent) (ops:Array Oper) (Q:AS→Prop) (rest:List Oper) (e:Nat) (τ : Nat→V) (H:Heap) (a b:V):appC Tryz.prog E ops Q rest e τ H [22,22] a b=appE Tryz.prog E ops Q rest e τ H 6 56 a (srcCells H 6 b) (obS H a):=appC_E ops Tryz.app22 e a b
theorem Tryz.shape24:shapeOf Tryz.prog 24=some (true,1):=by kernel_rfl
@[go_sem] theorem Tryz.load24 (H:Heap) (a:V):readV Tryz.prog H 24 a=loadK (some (true,1)) (obOf H a) a:=readV_K Tryz.shape24 H a
@[go_sem] theorem Tryz.sz24:szOf Tryz.prog 24=some 1:=by kernel_rfl
@[go_sem] theorem Tryz.zero24:zeroC Tryz.prog 24=some [.nils]:=by kernel_rfl
@[go_sem] theorem Tryz.bld24 (l:List (Nat × V)):buildV Tryz.prog 24 l=(fillV (tblP [(0,1)]) [.nils] l).map .agg:=buildV_K (P:=Tryz.prog) (t:=24) (tbl:=[(0,1)]) (z:=[.nils]) (by kernel_rfl) (by kernel_rfl) l
theorem Tryz.fld24_0:fldOf Tryz.prog 24 0=some (0,false,1):=by kernel_rfl
@[go_sem] theorem Tryz.fa24_0 (a:V):fieldAddrV Tryz.prog 24 a 0=fldK (some (0,false,1)) a:=fieldAddrV_K Tryz.fld24_0 a
theorem Tryz.elem25:elemOf Tryz.prog 25=some 2:=by kernel_rfl
@[go_sem] theorem Tryz.idx25 (a i:V):indexAddrV Tryz.prog 25 a i=idxK (some 2) a i:=indexAddrV_K Tryz.elem25 a i
@[go_sem] theorem Tryz.len25 (a:V):lenV Tryz.prog 25 a=lenK true a:=lenV_slice Tryz.elem25 a
@[go_sem] theorem Tryz.bs25 (n:Nat) (l:List (Nat × V)):bsCells Tryz.prog 25 n l=bsK 2 [.str [],.int .i64 0] n l:=bsCells_K (P:=Tryz.prog) (t:=25) (e:=55) (m:=2) (z:=[.str [],.int .i64 0]) (by kernel_rfl) (by kernel_rfl) (by kernel_rfl) rfl n l
theorem Tryz.shape30:shapeOf Tryz.prog 30=some (false,1):=by kernel_rfl
@[go_sem] theorem Tryz.load30 (H:Heap) (a:V):readV Tryz.prog H 30 a=loadK (some (false,1)) (obOf H a) a:=readV_K Tryz.shape30 H a
@[go_sem] theorem Tryz.sz30:szOf Tryz.prog 30=some 1:=by kernel_rfl
@[go_sem] theorem Tryz.zero30:zeroC Tryz.prog 30=some [.int .i64 0]:=by kernel_rfl
theorem Tryz.shape34:shapeOf Tryz.prog 34=some (true,3):=by kernel_rfl
@[go_sem] theorem Tryz.load34 (H:Heap) (a:V):readV Tryz.prog H 34 a=loadK (some (true,3)) (obOf H a) a:=readV_K Tryz.shape34 H a
@[go_sem] theorem Tryz.sz34:szOf Tryz.prog 34=some 3:=by kernel_rfl
@[go_sem] theorem Tryz.zero34:zeroC Tryz.prog 34=some [.int .u8 0,.int .i64 0,.bool false]:=by kernel_rfl
@[go_sem] theorem Tryz.bld34 (l:List (Nat × V)):buildV Tryz.prog 34 l=(fillV (tblP [(0,1),(1,1),(2,1)]) [.int .u8 0,.int .i64 0,.bool false] l).map .agg:=buildV_K (P:=Tryz.prog) (t:=34) (tbl:=[(0,1),(1,1),(2,1)]) (z:=[.int .u8 0,.int .i64 0,.bool false]) (by kernel_rfl) (by kernel_rfl) l
theorem Tryz.fld34_0:fldOf Tryz.prog 34 0=some (0,false,1):=by kernel_rfl
@[go_sem] theorem Tryz.fa34_0 (a:V):fieldAddrV Tryz.prog 34 a 0=fldK (some (0,false,1)) a:=fieldAddrV_K Tryz.fld34_0 a
theorem Tryz.fld34_1:fldOf Tryz.prog 34 1=some (1,false,1):=by kernel_rfl
@[go_sem] theorem Tryz.fa34_1 (a:V):fieldAddrV Tryz.prog 34 a 1=fldK (some (1,false,1)) a:=fieldAddrV_K Tryz.fld34_1 a
@[go_sem] theorem Tryz.fv34_1 (l:List V):fieldV Tryz.prog 34 (.agg l) 1=partC false 1 l 1:=fieldV_K Tryz.fld34_1 l
theorem Tryz.fld34_2:fldOf Tryz.prog 34 2=some (2,false,1):=by kernel_rfl
@[go_sem] theorem Tryz.fa34_2 (a:V):fieldAddrV Tryz.prog 34 a 2=fldK (some (2,false,1)) a:=fieldAddrV_K Tryz.fld34_2 a
@[go_sem] theorem Tryz.fv34_2 (l:List V):fieldV Tryz.prog 34 (.agg l) 2=partC false 1 l 2:=fieldV_K Tryz.fld34_2 l
@[go_sem] theorem Tryz.eqls34 (x0 y0:Int) (x1 y1:Int) (x2 y2:Bool):binV Tryz.prog .eql 34 (.agg [.int .u8 x0,.int .i64 x1,.bool x2]) (.agg [.int .u8 y0,.int .i64 y1,.bool y2])=some (.bool (x0==y0 && (x1==y1 && (x2==y2 && true)))):=(binV_flat (P:=Tryz.prog) (t:=34) (by kernel_rfl) (eqCs_int (eqCs_int (eqCs_bool eqCs_nil x2 y2) .i64 x1 y1) .u8 x0 y0)).1
@[go_sem] theorem Tryz.neqs34 (x0 y0:Int) (x1 y1:Int) (x2 y2:Bool):binV Tryz.prog .neq 34 (.agg [.int .u8 x0,.int .i64 x1,.bool x2]) (.agg [.int .u8 y0,.int .i64 y1,.bool y2])=some (.bool (!(x0==y0 && (x1==y1 && (x2==y2 && true))))):=(binV_flat (P:=Tryz.prog) (t:=34) (by kernel_rfl) (eqCs_int (eqCs_int (eqCs_bool eqCs_nil x2 y2) .i64 x1 y1) .u8 x0 y0)).2
theorem Tryz.shape39:shapeOf Tryz.prog 39=some (false,1):=by kernel_rfl
@[go_sem] theorem Tryz.load39 (H:Heap) (a:V):readV Tryz.prog H 39 a=loadK (some (false,1)) (obOf H a) a:=readV_K Tryz.shape39 H a
theorem Tryz.elem39:elemOf Tryz.prog 39=some 6:=by kernel_rfl
@[go_sem] theorem Tryz.idx39 (a i:V):indexAddrV Tryz.prog 39 a i=idxK (some 6) a i:=indexAddrV_K Tryz.elem39 a i
@[go_sem] theorem Tryz.len39 (a:V):lenV Tryz.prog 39 a=lenK true a:=lenV_slice Tryz.elem39 a
@[go_sem] theorem Tryz.bs39 (n:Nat) (l:List (Nat × V)):bsCells Tryz.prog 39 n l=bsK 6 [.int .u8 0,.int .i64 0,.str [],.int .i64 0,.int .i64 0,.int .i64 0] n l:=bsCells_K (P:=Tryz.prog) (t:=39) (e:=109) (m:=6) (z:=[.int .u8 0,.int .i64 0,.str [],.int .i64 0,.int .i64 0,.int .i64 0]) (by kernel_rfl) (by kernel_rfl) (by kernel_rfl) rfl n l
theorem Tryz.app39:appOf Tryz.prog [39,39]=some (6,56):=by kernel_rfl
@[go_sem] theorem Tryz.appc39 (E:Ent) (ops:Array Oper) (Q:AS→Prop) (rest:List Oper) (e:Nat) (τ : Nat→V) (H:Heap) (a b:V):appC Tryz.prog E ops Q rest e τ H [39,39] a b=appE Tryz.prog E ops Q rest e τ H 6 56 a (srcCells H 6 b) (obS H a):=appC_E ops Tryz.app39 e a b
theorem Tryz.shape41:shapeOf Tryz.prog 41=some (false,1):=by kernel_rfl
@[go_sem] theorem Tryz.load41 (H:Heap) (a:V):readV Tryz.prog H 41 a=loadK (some (false,1)) (obOf H a) a:=readV_K Tryz.shape41 H a
theorem Tryz.elem41:elemOf Tryz.prog 41=some 2:=by kernel_rfl
@[go_sem] theorem Tryz.idx41 (a i:V):indexAddrV Tryz.prog 41 a i=idxK (some 2) a i:=indexAddrV_K Tryz.elem41 a i
@[go_sem] theorem Tryz.len41 (a:V):lenV Tryz.prog 41 a=lenK true a:=lenV_slice Tryz.elem41 a
@[go_sem] theorem Tryz.bs41 (n:Nat) (l:List (Nat × V)):bsCells Tryz.prog 41 n l=bsK 2 [.str [],.int .i64 0] n l:=bsCells_K (P:=Tryz.prog) (t:=41) (e:=80) (m:=2) (z:=[.str [],.int .i64 0]) (by kernel_rfl) (by kernel_rfl) (by kernel_rfl) rfl n l
theorem Tryz.app41:appOf Tryz.prog [41,41]=some (2,24):=by kernel_rfl
@[go_sem] theorem Tryz.appc41 (E:Ent) (ops:Array Oper) (Q:AS→Prop) (rest:List Oper) (e:Nat) (τ : Nat→V) (H:Heap) (a b:V):appC Tryz.prog E ops Q rest e τ H [41,41] a b=appE Tryz.prog E ops Q rest e τ H 2 24 a (srcCells H 2 b) (obS H a):=appC_E ops Tryz.app41 e a b
theorem Tryz.shape43:shapeOf Tryz.prog 43=some (true,3):=by kernel_rfl
@[go_sem] theorem Tryz.load43 (H:Heap) (a:V):readV Tryz.prog H 43 a=loadK (some (true,3)) (obOf H a) a:=readV_K Tryz.shape43 H a
@[go_sem] theorem Tryz.sz43:szOf Tryz.prog 43=some 3:=by kernel_rfl
@[go_sem] theorem Tryz.zero43:zeroC Tryz.prog 43=some [.int .u8 0,.int .i64 0,.bool false]:=by kernel_rfl
@[go_sem] theorem Tryz.bld43 (l:List (Nat × V)):buildV Tryz.prog 43 l=(fillV (tblP [(0,1),(1,1),(2,1)]) [.int .u8 0,.int .i64 0,.bool false] l).map .agg:=buildV_K (P:=Tryz.prog) (t:=43) (tbl:=[(0,1),(1,1),(2,1)]) (z:=[.int .u8 0,.int .i64 0,.bool false]) (by kernel_rfl) (by kernel_rfl) l
theorem Tryz.fld43_0:fldOf Tryz.prog 43 0=some (0,false,1):=by kernel_rfl
@[go_sem] theorem Tryz.fa43_0 (a:V):fieldAddrV Tryz.prog 43 a 0=fldK (some (0,false,1)) a:=fieldAddrV_K Tryz.fld43_0 a
theorem Tryz.fld43_1:fldOf Tryz.prog 43 1=some (1,false,1):=by kernel_rfl
@[go_sem] theorem Tryz.fa43_1 (a:V):fieldAddrV Tryz.prog 43 a 1=fldK (some (1,false,1)) a:=fieldAddrV_K Tryz.fld43_1 a
theorem Tryz.fld43_2:fldOf Tryz.prog 43 2=some (2,false,1):=by kernel_rfl
@[go_sem] theorem Tryz.fa43_2 (a:V):fieldAddrV Tryz.prog 43 a 2=fldK (some (2,false,1)) a:=fieldAddrV_K Tryz.fld43_2 a
@[go_sem] theorem Tryz.eqls43 (x0 y0:Int) (x1 y1:Int) (x2 y2:Bool):binV Tryz.prog .eql 43 (.agg [.int .u8 x0,.int .i64 x1,.bool x2]) (.agg [.int .u8 y0,.int .i64 y1,.bool y2])=some (.bool (x0==y0 && (x1==y1 && (x2==y2 && true)))):=(binV_flat (P:=Tryz.prog) (t:=43) (by kernel_rfl) (eqCs_int (eqCs_int (eqCs_bool eqCs_nil x2 y2) .i64 x1 y1) .u8 x0 y0)).1
theorem Tryz.elem53:elemOf Tryz.prog 53=some 1:=by kernel_rfl
@[go_sem] theorem Tryz.idx53 (a i:V):indexAddrV Tryz.prog 53 a i=idxK (some 1) a i:=indexAddrV_K Tryz.elem53 a i
@[go_sem] theorem Tryz.len53 (a:V):lenV Tryz.prog 53 a=lenK true a:=lenV_slice Tryz.elem53 a
@[go_sem] theorem Tryz.bs53 (n:Nat) (l:List (Nat × V)):bsCells Tryz.prog 53 n l=bsK 1 [.str []] n l:=bsCells_K (P:=Tryz.prog) (t:=53) (e:=9) (m:=1) (z:=[.str []]) (by kernel_rfl) (by kernel_rfl) (by kernel_rfl) rfl n l
@[go_sem] theorem Tryz.bld55 (l:List (Nat × V)):buildV Tryz.prog 55 l=(fillV (tblP [(0,1),(1,1)]) [.str [],.int .i64 0] l).map .agg:=buildV_K (P:=Tryz.prog) (t:=55) (tbl:=[(0,1),(1,1)]) (z:=[.str [],.int .i64 0]) (by kernel_rfl) (by kernel_rfl) l
theorem Tryz.fld55_0:fldOf Tryz.prog 55 0=some (0,false,1):=by kernel_rfl
@[go_sem] theorem Tryz.fa55_0 (a:V):fieldAddrV Tryz.prog 55 a 0=fldK (some (0,false,1)) a:=fieldAddrV_K Tryz.fld55_0 a
theorem Tryz.fld55_1:fldOf Tryz.prog 55 1=some (1,false,1):=by kernel_rfl
@[go_sem] theorem Tryz.fa55_1 (a:V):fieldAddrV Tryz.prog 55 a 1=fldK (some (1,false,1)) a:=fieldAddrV_K Tryz.fld55_1 a
theorem Tryz.shape59:shapeOf Tryz.prog 59=some (true,6):=by kernel_rfl
@[go_sem] theorem Tryz.load59 (H:Heap) (a:V):readV Tryz.prog H 59 a=loadK (some (true,6)) (obOf H a) a:=readV_K Tryz.shape59 H a
@[go_sem] theorem Tryz.sz59:szOf Tryz.prog 59=some 6:=by kernel_rfl
@[go_sem] theorem Tryz.zero59:zeroC Tryz.prog 59=some [.int .u8 0,.int .i64 0,.str [],.int .i64 0,.int .i64 0,.int .i64 0]:=by kernel_rfl
@[go_sem] theorem Tryz.bld59 (l:List (Nat × V)):buildV Tryz.prog 59 l=(fillV (tblP [(0,1),(1,1),(2,1),(3,1),(4,1),(5,1)]) [.int .u8 0,.int .i64 0,.str [],.int .i64 0,.int .i64 0,.int .i64 0] l).map .agg:=buildV_K (P:=Tryz.prog) (t:=59) (tbl:=[(0,1),(1,1),(2,1),(3,1),(4,1),(5,1)]) (z:=[.int .u8 0,.int .i64 0,.str [],.int .i64 0,.int .i64 0,.int .i64 0]) (by kernel_rfl) (by kernel_rfl) l
theorem Tryz.fld59_0:fldOf Tryz.prog 59 0=some (0,false,1):=by kernel_rfl
@[go_sem] theorem Tryz.fa59_0 (a:V):fieldAddrV Tryz.prog 59 a 0=fldK (some (0,false,1)) a:=fieldAddrV_K Tryz.fld59_0 a
theorem Tryz.fld59_1:fldOf Tryz.prog 59 1=some (1,false,1):=by kernel_rfl
@[go_sem] theorem Tryz.fa59_1 (a:V):fieldAddrV Tryz.prog 59 a 1=fldK (some (1,false,1)) a:=fieldAddrV_K Tryz.fld59_1 a
theorem Tryz.fld59_2:fldOf Tryz.prog 59 2=some (2,false,1):=by kernel_rfl
@[go_sem] theorem Tryz.fa59_2 (a:V):fieldAddrV Tryz.prog 59 a 2=fldK (some (2,false,1)) a:=fieldAddrV_K Tryz.fld59_2 a
theorem Tryz.fld59_3:fldOf Tryz.prog 59 3=some (3,false,1):=by kernel_rfl
@[go_sem] theorem Tryz.fa59_3 (a:V):fieldAddrV Tryz.prog 59 a 3=fldK (some (3,false,1)) a:=fieldAddrV_K Tryz.fld59_3 a
theorem Tryz.fld59_4:fldOf Tryz.prog 59 4=some (4,false,1):=by kernel_rfl
@[go_sem] theorem Tryz.fa59_4 (a:V):fieldAddrV Tryz.prog 59 a 4=fldK (some (4,false,1)) a:=fieldAddrV_K Tryz.fld59_4 a
theorem Tryz.fld59_5:fldOf Tryz.prog 59 5=some (5,false,1):=by kernel_rfl
@[go_sem] theorem Tryz.fa59_5 (a:V):fieldAddrV Tryz.prog 59 a 5=fldK (some (5,false,1)) a:=fieldAddrV_K Tryz.fld59_5 a
@[go_sem] theorem Tryz.bld80 (l:List (Nat × V)):buildV Tryz.prog 80 l=(fillV (tblP [(0,1),(1,1)]) [.str [],.int .i64 0] l).map .agg:=buildV_K (P:=Tryz.prog) (t:=80) (tbl:=[(0,1),(1,1)]) (z:=[.str [],.int .i64 0]) (by kernel_rfl) (by kernel_rfl) l
theorem Tryz.fld80_0:fldOf Tryz.prog 80 0=some (0,false,1):=by kernel_rfl
@[go_sem] theorem Tryz.fa80_0 (a:V):fieldAddrV Tryz.prog 80 a 0=fldK (some (0,false,1)) a:=fieldAddrV_K Tryz.fld80_0 a
theorem Tryz.fld80_1:fldOf Tryz.prog 80 1=some (1,false,1):=by kernel_rfl
@[go_sem] theorem Tryz.fa80_1 (a:V):fieldAddrV Tryz.prog 80 a 1=fldK (some (1,false,1)) a:=fieldAddrV_K Tryz.fld80_1 a
theorem Tryz.elem96:elemOf Tryz.prog 96=some 3:=by kernel_rfl
@[go_sem] theorem Tryz.idx96 (a i:V):indexAddrV Tryz.prog 96 a i=idxK (some 3) a i:=indexAddrV_K Tryz.elem96 a i
@[go_sem] theorem Tryz.bs96 (n:Nat) (l:List (Nat × V)):bsCells Tryz.prog 96 n l=bsK 3 [.int .u8 0,.int .i64 0,.bool false] n l:=bsCells_K (P:=Tryz.prog) (t:=96) (e:=34) (m:=3) (z:=[.int .u8 0,.int .i64 0,.bool false]) (by kernel_rfl) (by kernel_rfl) (by kernel_rfl) rfl n l
theorem Tryz.elem97:elemOf Tryz.prog 97=some 1:=by kernel_rfl
@[go_sem] theorem Tryz.idx97 (a i:V):indexAddrV Tryz.prog 97 a i=idxK (some 1) a i:=indexAddrV_K Tryz.elem97 a i
@[go_sem] theorem Tryz.bs97 (n:Nat) (l:List (Nat × V)):bsCells Tryz.prog 97 n l=bsK 1 [.int .i64 0] n l:=bsCells_K (P:=Tryz.prog) (t:=97) (e:=30) (m:=1) (z:=[.int .i64 0]) (by kernel_rfl) (by kernel_rfl) (by kernel_rfl) rfl n l
theorem Tryz.shape99:shapeOf Tryz.prog 99=some (true,3):=by kernel_rfl
@[go_sem] theorem Tryz.load99 (H:Heap) (a:V):readV Tryz.prog H 99 a=loadK (some (true,3)) (obOf H a) a:=readV_K Tryz.shape99 H a
@[go_sem] theorem Tryz.bld99 (l:List (Nat × V)):buildV Tryz.prog 99 l=(fillV (tblP [(0,1),(1,1),(2,1)]) [.str [],.int .i64 0,.int .i64 0] l).map .agg:=buildV_K (P:=Tryz.prog) (t:=99) (tbl:=[(0,1),(1,1),(2,1)]) (z:=[.str [],.int .i64 0,.int .i64 0]) (by kernel_rfl) (by kernel_rfl) l
theorem Tryz.fld99_0:fldOf Tryz.prog 99 0=some (0,false,1):=by kernel_rfl
@[go_sem] theorem Tryz.fa99_0 (a:V):fieldAddrV Tryz.prog 99 a 0=fldK (some (0,false,1)) a:=fieldAddrV_K Tryz.fld99_0 a
theorem Tryz.fld99_1:fldOf Tryz.prog 99 1=some (1,false,1):=by kernel_rfl
@[go_sem] theorem Tryz.fa99_1 (a:V):fieldAddrV Tryz.prog 99 a 1=fldK (some (1,false,1)) a:=fieldAddrV_K Tryz.fld99_1 a
theorem Tryz.fld99_2:fldOf Tryz.prog 99 2=some (2,false,1):=by kernel_rfl
@[go_sem] theorem Tryz.fa99_2 (a:V):fieldAddrV Tryz.prog 99 a 2=fldK (some (2,false,1)) a:=fieldAddrV_K Tryz.fld99_2 a
theorem Tryz.shape100:shapeOf Tryz.prog 100=some (true,69):=by kernel_rfl
@[go_sem] theorem Tryz.load100 (H:Heap) (a:V):readV Tryz.prog H 100 a=loadK (some (true,69)) (obOf H a) a:=readV_K Tryz.shape100 H a
@[go_sem] theorem Tryz.sz100:szOf Tryz.prog 100=some 69:=by kernel_rfl
@[go_sem] theorem Tryz.zero100:zeroC Tryz.prog 100=some (.str [] :: .int .i64 0 :: .int .i64 0 :: .str [] :: .int .i64 0 :: .int .i64 0 :: .str [] :: .int .i64 0 :: .int .i64 0 :: .str [] :: .int .i64 0 :: .int .i64 0 :: .str [] :: .int .i64 0 :: .int .i64 0 :: .str [] :: .int .i64 0 :: .int .i64 0 :: .str [] :: .int .i64 0 :: .int .i64 0 :: .str [] :: .int .i64 0 :: .int .i64 0 :: .str [] :: .int .i64 0 :: .int .i64 0 :: .str [] :: .int .i64 0 :: .int .i64 0 :: .str [] :: .int .i64 0 :: .int .i64 0 :: .str [] :: .int .i64 0 :: .int .i64 0 :: .str [] :: .int .i64 0 :: .int .i64 0 :: .str [] :: .int .i64 0 :: .int .i64 0 :: .str [] :: .int .i64 0 :: .int .i64 0 :: .str [] :: .int .i64 0 :: .int .i64 0 :: .str [] :: .int .i64 0 :: .int .i64 0 :: .str [] :: .int .i64 0 :: .int .i64 0 :: .str [] :: .int .i64 0 :: .int .i64 0 :: .str [] :: .int .i64 0 :: .int .i64 0 :: .str [] :: .int .i64 0 :: .int .i64 0 :: .str [] :: .int .i64 0 :: .int .i64 0 :: .str [] :: .int .i64 0 :: .int .i64 0::[]):=by kernel_rfl
@[go_sem] theorem Tryz.ia100 (a:V) (ik:IntKind) (n:Int):indexAddrV Tryz.prog 100 a (.int ik n)=idxA 23 3 true a ik n:=indexAddrV_A (P:=Tryz.prog) (e:=99) (by kernel_rfl) (by kernel_rfl) (by kernel_rfl) (by decide) a ik n
@[go_sem] theorem Tryz.bla100 (l:List (Nat × V)):buildV Tryz.prog 100 l=(fillV (mulP 3) (.str [] :: .int .i64 0 :: .int .i64 0 :: .str [] :: .int .i64 0 :: .int .i64 0 :: .str [] :: .int .i64 0 :: .int .i64 0 :: .str [] :: .int .i64 0 :: .int .i64 0 :: .str [] :: .int .i64 0 :: .int .i64 0 :: .str [] :: .int .i64 0 :: .int .i64 0 :: .str [] :: .int .i64 0 :: .int .i64 0 :: .str [] :: .int .i64 0 :: .int .i64 0 :: .str [] :: .int .i64 0 :: .int .i64 0 :: .str [] :: .int .i64 0 :: .int .i64 0 :: .str [] :: .int .i64 0 :: .int .i64 0 :: .str [] :: .int .i64 0 :: .int .i64 0 :: .str [] :: .int .i64 0 :: .int .i64 0 :: .str [] :: .int .i64 0 :: .int .i64 0 :: .str [] :: .int .i64 0 :: .int .i64 0 :: .str [] :: .int .i64 0 :: .int .i64 0 :: .str [] :: .int .i64 0 :: .int .i64 0 :: .str [] :: .int .i64 0 :: .int .i64 0 :: .str [] :: .int .i64 0 :: .int .i64 0 :: .str [] :: .int .i64 0 :: .int .i64 0 :: .str [] :: .int .i64 0 :: .int .i64 0 :: .str [] :: .int .i64 0 :: .int .i64 0 :: .str [] :: .int .i64 0 :: .int .i64 0::[]) l).map .agg:=buildV_A (P:=Tryz.prog) (N:=23) (e:=99) (by kernel_rfl) (by kernel_rfl) (by kernel_rfl) l
theorem Tryz.elem102:elemOf Tryz.prog 102=some 2:=by kernel_rfl
@[go_sem] theorem Tryz.idx102 (a i:V):indexAddrV Tryz.prog 102 a i=idxK (some 2) a i:=indexAddrV_K Tryz.elem102 a i
@[go_sem] theorem Tryz.len102 (a:V):lenV Tryz.prog 102 a=lenK true a:=lenV_slice Tryz.elem102 a
@[go_sem] theorem Tryz.sl102 (a:V) (lo hi:Option V):sliceV Tryz.prog 102 a lo hi none=slK 2 a lo hi:=sliceV_K Tryz.elem102 a lo hi
@[go_sem] theorem Tryz.bs102 (n:Nat) (l:List (Nat × V)):bsCells Tryz.prog 102 n l=bsK 2 [.int .i64 0,.int .i64 0] n l:=bsCells_K (P:=Tryz.prog) (t:=102) (e:=106) (m:=2) (z:=[.int .i64 0,.int .i64 0]) (by kernel_rfl) (by kernel_rfl) (by kernel_rfl) rfl n l
theorem Tryz.app102:appOf Tryz.prog [102,102]=some (2,16):=by kernel_rfl
@[go_sem] theorem Tryz.appc102 (E:Ent) (ops:Array Oper) (Q:AS→Prop) (rest:List Oper) (e:Nat) (τ : Nat→V) (H:Heap) (a b:V):appC Tryz.prog E ops Q rest e τ H [102,102] a b=appE Tryz.prog E ops Q rest e τ H 2 16 a (srcCells H 2 b) (obS H a):=appC_E ops Tryz.app102 e a b
theorem Tryz.shape104:shapeOf Tryz.prog 104=some (false,1):=by kernel_rfl
@[go_sem] theorem Tryz.load104 (H:Heap) (a:V):readV Tryz.prog H 104 a=loadK (some (false,1)) (obOf H a) a:=readV_K Tryz.shape104 H a
@[go_sem] theorem Tryz.sz104:szOf Tryz.prog 104=some 1:=by kernel_rfl
theorem Tryz.elem104:elemOf Tryz.prog 104=some 1:=by kernel_rfl
@[go_sem] theorem Tryz.idx104 (a i:V):indexAddrV Tryz.prog 104 a i=idxK (some 1) a i:=indexAddrV_K Tryz.elem104 a i
@[go_sem] theorem Tryz.len104 (a:V):lenV Tryz.prog 104 a=lenK true a:=lenV_slice Tryz.elem104 a
@[go_sem] theorem Tryz.sl104 (a:V) (lo hi:Option V):sliceV Tryz.prog 104 a lo hi none=slK 1 a lo hi:=sliceV_K Tryz.elem104 a lo hi
@[go_sem] theorem Tryz.bs104 (n:Nat) (l:List (Nat × V)):bsCells Tryz.prog 104 n l=bsK 1 [.int .i64 0] n l:=bsCells_K (P:=Tryz.prog) (t:=104) (e:=3) (m:=1) (z:=[.int .i64 0]) (by kernel_rfl) (by kernel_rfl) (by kernel_rfl) rfl n l
@[go_sem] theorem Tryz.ms104 (a b:V):msCells Tryz.prog 104 a b=msK 1 8 [.int .i64 0] a b:=msCells_K (P:=Tryz.prog) (t:=104) (e:=3) (E:=1) (bytes:=8) (z:=[.int .i64 0]) (by kernel_rfl) (by kernel_rfl) (by kernel_rfl) (by kernel_rfl) rfl a b
theorem Tryz.app104:appOf Tryz.prog [104,104]=some (1,8):=by kernel_rfl
@[go_sem] theorem Tryz.appc104 (E:Ent) (ops:Array Oper) (Q:AS→Prop) (rest:List Oper) (e:Nat) (τ : Nat→V) (H:Heap) (a b:V):appC Tryz.prog E ops Q rest e τ H [104,104] a b=appE Tryz.prog E ops Q rest e τ H 1 8 a (srcCells H 1 b) (obS H a):=appC_E ops Tryz.app104 e a b
theorem Tryz.shape106:shapeOf Tryz.prog 106=some (true,2):=by kernel_rfl
@[go_sem] theorem Tryz.load106 (H:Heap) (a:V):readV Tryz.prog H 106 a=loadK (some (true,2)) (obOf H a) a:=readV_K Tryz.shape106 H a
@[go_sem] theorem Tryz.sz106:szOf Tryz.prog 106=some 2:=by kernel_rfl
@[go_sem] theorem Tryz.zero106:zeroC Tryz.prog 106=some [.int .i64 0,.int .i64 0]:=by kernel_rfl
@[go_sem] theorem Tryz.bld106 (l:List (Nat × V)):buildV Tryz.prog 106 l=(fillV (tblP [(0,1),(1,1)]) [.int .i64 0,.int .i64 0] l).map .agg:=buildV_K (P:=Tryz.prog) (t:=106) (tbl:=[(0,1),(1,1)]) (z:=[.int .i64 0,.int .i64 0]) (by kernel_rfl) (by kernel_rfl) l
theorem Tryz.fld106_0:fldOf Tryz.prog 106 0=some (0,false,1):=by kernel_rfl
@[go_sem] theorem Tryz.fa106_0 (a:V):fieldAddrV Tryz.prog 106 a 0=fldK (some (0,false,1)) a:=fieldAddrV_K Tryz.fld106_0 a
theorem Tryz.fld106_1:fldOf Tryz.prog 106 1=some (1,false,1):=by kernel_rfl
@[go_sem] theorem Tryz.fa106_1 (a:V):fieldAddrV Tryz.prog 106 a 1=fldK (some (1,false,1)) a:=fieldAddrV_K Tryz.fld106_1 a
theorem Tryz.shape109:shapeOf Tryz.prog 109=some (true,6):=by kernel_rfl
@[go_sem] theorem Tryz.load109 (H:Heap) (a:V):readV Tryz.prog H 109 a=loadK (some (true,6)) (obOf H a) a:=readV_K Tryz.shape109 H a
@[go_sem] theorem Tryz.sz109:szOf Tryz.prog 109=some 6:=by kernel_rfl
@[go_sem] theorem Tryz.zero109:zeroC Tryz.prog 109=some [.int .u8 0,.int .i64 0,.str [],.int .i64 0,.int .i64 0,.int .i64 0]:=by kernel_rfl
@[go_sem] theorem Tryz.bld109 (l:List (Nat × V)):buildV Tryz.prog 109 l=(fillV (tblP [(0,1),(1,1),(2,1),(3,1),(4,1),(5,1)]) [.int .u8 0,.int .i64 0,.str [],.int .i64 0,.int .i64 0,.int .i64 0] l).map .agg:=buildV_K (P:=Tryz.prog) (t:=109) (tbl:=[(0,1),(1,1),(2,1),(3,1),(4,1),(5,1)]) (z:=[.int .u8 0,.int .i64 0,.str [],.int .i64 0,.int .i64 0,.int .i64 0]) (by kernel_rfl) (by kernel_rfl) l
theorem Tryz.fld109_0:fldOf Tryz.prog 109 0=some (0,false,1):=by kernel_rfl
@[go_sem] theorem Tryz.fa109_0 (a:V):fieldAddrV Tryz.prog 109 a 0=fldK (some (0,false,1)) a:=fieldAddrV_K Tryz.fld109_0 a
theorem Tryz.fld109_1:fldOf Tryz.prog 109 1=some (1,false,1):=by kernel_rfl
@[go_sem] theorem Tryz.fa109_1 (a:V):fieldAddrV Tryz.prog 109 a 1=fldK (some (1,false,1)) a:=fieldAddrV_K Tryz.fld109_1 a
theorem Tryz.fld109_2:fldOf Tryz.prog 109 2=some (2,false,1):=by kernel_rfl
@[go_sem] theorem Tryz.fa109_2 (a:V):fieldAddrV Tryz.prog 109 a 2=fldK (some (2,false,1)) a:=fieldAddrV_K Tryz.fld109_2 a
theorem Tryz.fld109_3:fldOf Tryz.prog 109 3=some (3,false,1):=by kernel_rfl
@[go_sem] theorem Tryz.fa109_3 (a:V):fieldAddrV Tryz.prog 109 a 3=fldK (some (3,false,1)) a:=fieldAddrV_K Tryz.fld109_3 a
theorem Tryz.fld109_4:fldOf Tryz.prog 109 4=some (4,false,1):=by kernel_rfl
@[go_sem] theorem Tryz.fa109_4 (a:V):fieldAddrV Tryz.prog 109 a 4=fldK (some (4,false,1)) a:=fieldAddrV_K Tryz.fld109_4 a
theorem Tryz.fld109_5:fldOf Tryz.prog 109 5=some (5,false,1):=by kernel_rfl
@[go_sem] theorem Tryz.fa109_5 (a:V):fieldAddrV Tryz.prog 109 a 5=fldK (some (5,false,1)) a:=fieldAddrV_K Tryz.fld109_5 a
theorem Tryz.shape112:shapeOf Tryz.prog 112=some (true,2):=by kernel_rfl
@[go_sem] theorem Tryz.load112 (H:Heap) (a:V):readV Tryz.prog H 112 a=loadK (some (true,2)) (obOf H a) a:=readV_K Tryz.shape112 H a
@[go_sem] theorem Tryz.bld112 (l:List (Nat × V)):buildV Tryz.prog 112 l=(fillV (tblP [(0,1),(1,1)]) [.nils,.nils] l).map .agg:=buildV_K (P:=Tryz.prog) (t:=112) (tbl:=[(0,1),(1,1)]) (z:=[.nils,.nils]) (by kernel_rfl) (by kernel_rfl) l
theorem Tryz.fld112_0:fldOf Tryz.prog 112 0=some (0,false,1):=by kernel_rfl
@[go_sem] theorem Tryz.fa112_0 (a:V):fieldAddrV Tryz.prog 112 a 0=fldK (some (0,false,1)) a:=fieldAddrV_K Tryz.fld112_0 a
theorem Tryz.fld112_1:fldOf Tryz.prog 112 1=some (1,false,1):=by kernel_rfl
@[go_sem] theorem Tryz.fa112_1 (a:V):fieldAddrV Tryz.prog 112 a 1=fldK (some (1,false,1)) a:=fieldAddrV_K Tryz.fld112_1 a
theorem Tryz.shape116:shapeOf Tryz.prog 116=some (false,1):=by kernel_rfl
@[go_sem] theorem Tryz.load116 (H:Heap) (a:V):readV Tryz.prog H 116 a=loadK (some (false,1)) (obOf H a) a:=readV_K Tryz.shape116 H a
theorem Tryz.elem116:elemOf Tryz.prog 116=some 3:=by kernel_rfl
@[go_sem] theorem Tryz.idx116 (a i:V):indexAddrV Tryz.prog 116 a i=idxK (some 3) a i:=indexAddrV_K Tryz.elem116 a i
@[go_sem] theorem Tryz.len116 (a:V):lenV Tryz.prog 116 a=lenK true a:=lenV_slice Tryz.elem116 a
@[go_sem] theorem Tryz.bs116 (n:Nat) (l:List (Nat × V)):bsCells Tryz.prog 116 n l=bsK 3 [.int .u8 0,.str [],.int .i64 0] n l:=bsCells_K (P:=Tryz.prog) (t:=116) (e:=121) (m:=3) (z:=[.int .u8 0,.str [],.int .i64 0]) (by kernel_rfl) (by kernel_rfl) (by kernel_rfl) rfl n l
theorem Tryz.app116:appOf Tryz.prog [116,116]=some (3,32):=by kernel_rfl
@[go_sem] theorem Tryz.appc116 (E:Ent) (ops:Array Oper) (Q:AS→Prop) (rest:List Oper) (e:Nat) (τ : Nat→V) (H:Heap) (a b:V):appC Tryz.prog E ops Q rest e τ H [116,116] a b=appE Tryz.prog E ops Q rest e τ H 3 32 a (srcCells H 3 b) (obS H a):=appC_E ops Tryz.app116 e a b
theorem Tryz.shape121:shapeOf Tryz.prog 121=some (true,3):=by kernel_rfl
@[go_sem] theorem Tryz.load121 (H:Heap) (a:V):readV Tryz.prog H 121 a=loadK (some (true,3)) (obOf H a) a:=readV_K Tryz.shape121 H a
@[go_sem] theorem Tryz.sz121:szOf Tryz.prog 121=some 3:=by kernel_rfl
@[go_sem] theorem Tryz.zero121:zeroC Tryz.prog 121=some [.int .u8 0,.str [],.int .i64 0]:=by kernel_rfl
@[go_sem] theorem Tryz.bld121 (l:List (Nat × V)):buildV Tryz.prog 121 l=(fillV (tblP [(0,1),(1,1),(2,1)]) [.int .u8 0,.str [],.int .i64 0] l).map .agg:=buildV_K (P:=Tryz.prog) (t:=121) (tbl:=[(0,1),(1,1),(2,1)]) (z:=[.int .u8 0,.str [],.int .i64 0]) (by kernel_rfl) (by kernel_rfl) l
theorem Tryz.fld121_0:fldOf Tryz.prog 121 0=some (0,false,1):=by kernel_rfl
@[go_sem] theorem Tryz.fa121_0 (a:V):fieldAddrV Tryz.prog 121 a 0=fldK (some (0,false,1)) a:=fieldAddrV_K Tryz.fld121_0 a
theorem Tryz.fld121_1:fldOf Tryz.prog 121 1=some (1,false,1):=by kernel_rfl
@[go_sem] theorem Tryz.fa121_1 (a:V):fieldAddrV Tryz.prog 121 a 1=fldK (some (1,false,1)) a:=fieldAddrV_K Tryz.fld121_1 a
theorem Tryz.fld121_2:fldOf Tryz.prog 121 2=some (2,false,1):=by kernel_rfl
@[go_sem] theorem Tryz.fa121_2 (a:V):fieldAddrV Tryz.prog 121 a 2=fldK (some (2,false,1)) a:=fieldAddrV_K Tryz.fld121_2 a
@[go_sem] theorem Tryz.sz152:szOf Tryz.prog 152=some 1:=by kernel_rfl
@[go_sem] theorem Tryz.zero152:zeroC Tryz.prog 152=some [.int .i64 0]:=by kernel_rfl
@[go_sem] theorem Tryz.bld152 (l:List (Nat × V)):buildV Tryz.prog 152 l=(fillV (tblP [(0,1)]) [.int .i64 0] l).map .agg:=buildV_K (P:=Tryz.prog) (t:=152) (tbl:=[(0,1)]) (z:=[.int .i64 0]) (by kernel_rfl) (by kernel_rfl) l
theorem Tryz.fld152_0:fldOf Tryz.prog 152 0=some (0,false,1):=by kernel_rfl
@[go_sem] theorem Tryz.fa152_0 (a:V):fieldAddrV Tryz.prog 152 a 0=fldK (some (0,false,1)) a:=fieldAddrV_K Tryz.fld152_0 a
theorem Tryz.shape155:shapeOf Tryz.prog 155=some (false,1):=by kernel_rfl
@[go_sem] theorem Tryz.load155 (H:Heap) (a:V):readV Tryz.prog H 155 a=loadK (some (false,1)) (obOf H a) a:=readV_K Tryz.shape155 H a
@[go_sem] theorem Tryz.bld157 (l:List (Nat × V)):buildV Tryz.prog 157 l=(fillV (tblP [(0,1),(1,1)]) [.nils,.nilm] l).map .agg:=buildV_K (P:=Tryz.prog) (t:=157) (tbl:=[(0,1),(1,1)]) (z:=[.nils,.nilm]) (by kernel_rfl) (by kernel_rfl) l
theorem Tryz.fld157_0:fldOf Tryz.prog 157 0=some (0,false,1):=by kernel_rfl
@[go_sem] theorem Tryz.fa157_0 (a:V):fieldAddrV Tryz.prog 157 a 0=fldK (some (0,false,1)) a:=fieldAddrV_K Tryz.fld157_0 a
theorem Tryz.fld157_1:fldOf Tryz.prog 157 1=some (1,false,1):=by kernel_rfl
@[go_sem] theorem Tryz.fa157_1 (a:V):fieldAddrV Tryz.prog 157 a 1=fldK (some (1,false,1)) a:=fieldAddrV_K Tryz.fld157_1 a
theorem Tryz.shape169:shapeOf Tryz.prog 169=some (false,1):=by kernel_rfl
@[go_sem] theorem Tryz.load169 (H:Heap) (a:V):readV Tryz.prog H 169 a=loadK (some (false,1)) (obOf H a) a:=readV_K Tryz.shape169 H a
@[go_sem] theorem Tryz.bld171 (l:List (Nat × V)):buildV Tryz.prog 171 l=(fillV (tblP [(0,1),(1,1),(2,1),(3,1),(4,1)]) [.nils,.int .i64 0,.nils,.int .i64 0,.nilf] l).map .agg:=buildV_K (P:=Tryz.prog) (t:=171) (tbl:=[(0,1),(1,1),(2,1),(3,1),(4,1)]) (z:=[.nils,.int .i64 0,.nils,.int .i64 0,.nilf]) (by kernel_rfl) (by kernel_rfl) l
theorem Tryz.fld171_0:fldOf Tryz.prog 171 0=some (0,false,1):=by kernel_rfl
@[go_sem] theorem Tryz.fa171_0 (a:V):fieldAddrV Tryz.prog 171 a 0=fldK (some (0,false,1)) a:=fieldAddrV_K Tryz.fld171_0 a
theorem Tryz.fld171_1:fldOf Tryz.prog 171 1=some (1,false,1):=by kernel_rfl
@[go_sem] theorem Tryz.fa171_1 (a:V):fieldAddrV Tryz.prog 171 a 1=fldK (some (1,false,1)) a:=fieldAddrV_K Tryz.fld171_1 a
theorem Tryz.fld171_2:fldOf Tryz.prog 171 2=some (2,false,1):=by kernel_rfl
@[go_sem] theorem Tryz.fa171_2 (a:V):fieldAddrV Tryz.prog 171 a 2=fldK (some (2,false,1)) a:=fieldAddrV_K Tryz.fld171_2 a
theorem Tryz.fld171_3:fldOf Tryz.prog 171 3=some (3,false,1):=by kernel_rfl
@[go_sem] theorem Tryz.fa171_3 (a:V):fieldAddrV Tryz.prog 171 a 3=fldK (some (3,false,1)) a:=fieldAddrV_K Tryz.fld171_3 a
theorem Tryz.fld171_4:fldOf Tryz.prog 171 4=some (4,false,1):=by kernel_rfl
@[go_sem] theorem Tryz.fa171_4 (a:V):fieldAddrV Tryz.prog 171 a 4=fldK (some (4,false,1)) a:=fieldAddrV_K Tryz.fld171_4 a
theorem Tryz.shape204:shapeOf Tryz.prog 204=some (true,2):=by kernel_rfl
@[go_sem] theorem Tryz.load204 (H:Heap) (a:V):readV Tryz.prog H 204 a=loadK (some (true,2)) (obOf H a) a:=readV_K Tryz.shape204 H a
@[go_sem] theorem Tryz.sz204:szOf Tryz.prog 204=some 2:=by kernel_rfl
@[go_sem] theorem Tryz.zero204:zeroC Tryz.prog 204=some [.nils,.bool false]:=by kernel_rfl
@[go_sem] theorem Tryz.bld204 (l:List (Nat × V)):buildV Tryz.prog 204 l=(fillV (tblP [(0,1),(1,1)]) [.nils,.bool false] l).map .agg:=buildV_K (P:=Tryz.prog) (t:=204) (tbl:=[(0,1),(1,1)]) (z:=[.nils,.bool false]) (by kernel_rfl) (by kernel_rfl) l
theorem Tryz.fld204_0:fldOf Tryz.prog 204 0=some (0,false,1):=by kernel_rfl
@[go_sem] theorem Tryz.fa204_0 (a:V):fieldAddrV Tryz.prog 204 a 0=fldK (some (0,false,1)) a:=fieldAddrV_K Tryz.fld204_0 a
@[go_sem] theorem Tryz.fv204_0 (l:List V):fieldV Tryz.prog 204 (.agg l) 0=partC false 1 l 0:=fieldV_K Tryz.fld204_0 l
theorem Tryz.fld204_1:fldOf Tryz.prog 204 1=some (1,false,1):=by kernel_rfl
@[go_sem] theorem Tryz.fa204_1 (a:V):fieldAddrV Tryz.prog 204 a 1=fldK (some (1,false,1)) a:=fieldAddrV_K Tryz.fld204_1 a
@[go_sem] theorem Tryz.ia212 (a:V) (ik:IntKind) (n:Int):indexAddrV Tryz.prog 212 a (.int ik n)=idxA 14 1 false a ik n:=indexAddrV_A (P:=Tryz.prog) (e:=9) (by kernel_rfl) (by kernel_rfl) (by kernel_rfl) (by decide) a ik n
theorem Tryz.elem249:elemOf Tryz.prog 249=some 3:=by kernel_rfl
@[go_sem] theorem Tryz.idx249 (a i:V):indexAddrV Tryz.prog 249 a i=idxK (some 3) a i:=indexAddrV_K Tryz.elem249 a i
@[go_sem] theorem Tryz.len249 (a:V):lenV Tryz.prog 249 a=lenK true a:=lenV_slice Tryz.elem249 a
@[go_sem] theorem Tryz.iv261 (l:List V) (ik:IntKind) (n:Int):indexV Tryz.prog 261 (.agg l) (.int ik n)=if 0≤n∧n<(3:Nat) then partC false 1 l (n.toNat * 1) else none:=indexV_A (P:=Tryz.prog) (e:=9) (by kernel_rfl) (by kernel_rfl) (by kernel_rfl) (by decide) l ik n
@[go_sem] theorem Tryz.bla261 (l:List (Nat × V)):buildV Tryz.prog 261 l=(fillV (mulP 1) [.str [],.str [],.str []] l).map .agg:=buildV_A (P:=Tryz.prog) (N:=3) (e:=9) (by kernel_rfl) (by kernel_rfl) (by kernel_rfl) l
@[go_sem] theorem Tryz.cv2_262 (k:IntKind) (n:Int):convV Tryz.prog 2 262 (.int k n)=some (.int .u64 (IntKind.wrap .u64 n)):=conv_int (P:=Tryz.prog) (s:=2) (d:=262) (by kernel_rfl) (by kernel_rfl) k n
@[go_sem] theorem Tryz.cv3_5 (k:IntKind) (n:Int):convV Tryz.prog 3 5 (.int k n)=some (.int .u8 (IntKind.wrap .u8 n)):=conv_int (P:=Tryz.prog) (s:=3) (d:=5) (by kernel_rfl) (by kernel_rfl) k n
@[go_sem] theorem Tryz.cv262_2 (k:IntKind) (n:Int):convV Tryz.prog 262 2 (.int k n)=some (.int .i64 (IntKind.wrap .i64 n)):=conv_int (P:=Tryz.prog) (s:=262) (d:=2) (by kernel_rfl) (by kernel_rfl) k n
end Go.Hs
end
