/- Part 20 of the proof of a statement of seat YtohdjmgdaaipaaaGreatDoor: HsFactsH. -/
import Derived.Test.YtohdjmgdaaipaaaGreatDoorPart19
import Derived.Test.YtohdjmgdaaipaaaGreatDoorProg
import Derived.KernelRfl
set_option linter.unusedSimpArgs false
set_option linter.unusedVariables false
section
namespace Go.Hs
open Go.Proofs
theorem Tryz.shape2:shapeOf Tryz.prog 2=some (false,1):=by kernel_rfl
@[go_sem] theorem Tryz.load2 (H:Heap) (a:V):readV Tryz.prog H 2 a=loadK (some (false,1)) (obOf H a) a:=readV_K Tryz.shape2 H a
theorem Tryz.shape3:shapeOf Tryz.prog 3=some (false,1):=by kernel_rfl
@[go_sem] theorem Tryz.load3 (H:Heap) (a:V):readV Tryz.prog H 3 a=loadK (some (false,1)) (obOf H a) a:=readV_K Tryz.shape3 H a
@[go_sem] theorem Tryz.sz3:szOf Tryz.prog 3=some 1:=by kernel_rfl
theorem Tryz.shape4:shapeOf Tryz.prog 4=some (false,1):=by kernel_rfl
@[go_sem] theorem Tryz.load4 (H:Heap) (a:V):readV Tryz.prog H 4 a=loadK (some (false,1)) (obOf H a) a:=readV_K Tryz.shape4 H a
@[go_sem] theorem Tryz.eqb4 (a b:Bool):binV Tryz.prog .eql 4 (.bool a) (.bool b)=some (.bool (a==b)):=(binV_bool (P:=Tryz.prog) (by kernel_rfl) a b).1
theorem Tryz.shape5:shapeOf Tryz.prog 5=some (false,1):=by kernel_rfl
@[go_sem] theorem Tryz.load5 (H:Heap) (a:V):readV Tryz.prog H 5 a=loadK (some (false,1)) (obOf H a) a:=readV_K Tryz.shape5 H a
@[go_sem] theorem Tryz.sz5:szOf Tryz.prog 5=some 1:=by kernel_rfl
theorem Tryz.shape9:shapeOf Tryz.prog 9=some (false,1):=by kernel_rfl
@[go_sem] theorem Tryz.load9 (H:Heap) (a:V):readV Tryz.prog H 9 a=loadK (some (false,1)) (obOf H a) a:=readV_K Tryz.shape9 H a
@[go_sem] theorem Tryz.sz9:szOf Tryz.prog 9=some 1:=by kernel_rfl
theorem Tryz.str9:isStr Tryz.prog 9=true:=by kernel_rfl
@[go_sem] theorem Tryz.len9 (a:V):lenV Tryz.prog 9 a=lenK false a:=lenV_str Tryz.str9 a
@[go_sem] theorem Tryz.ixs9 (s:List UInt8) (k:IntKind) (n:Int):indexV Tryz.prog 9 (.str s) (.int k n)=if 0≤n then (s[n.toNat]?).map fun b => .int .u8 b.toNat else none:=indexV_str Tryz.str9 s k n
@[go_sem] theorem Tryz.sls9 (s:List UInt8) (lo hi:Option V):sliceV Tryz.prog 9 (.str s) lo hi none=slJ (boundV 0 lo) (boundV s.length hi) fun i j=>if i≤j∧j≤s.length then some (.str ((s.drop i).take (j-i))) else none:=sliceV_str Tryz.str9 s lo hi
theorem Tryz.elem23:elemOf Tryz.prog 23=some 3:=by kernel_rfl
@[go_sem] theorem Tryz.idx23 (a i:V):indexAddrV Tryz.prog 23 a i=idxK (some 3) a i:=indexAddrV_K Tryz.elem23 a i
@[go_sem] theorem Tryz.len23 (a:V):lenV Tryz.prog 23 a=lenK true a:=lenV_slice Tryz.elem23 a
@[go_sem] theorem Tryz.bs23 (n:Nat) (l:List (Nat × V)):bsCells Tryz.prog 23 n l=bsK 3 [.int .u8 0,.str [],.nils] n l:=bsCells_K (P:=Tryz.prog) (t:=23) (e:=98) (m:=3) (z:=[.int .u8 0,.str [],.nils]) (by kernel_rfl) (by kernel_rfl) (by kernel_rfl) rfl n l
theorem Tryz.app23:appOf Tryz.prog [23,23]=some (3,48):=by kernel_rfl
@[go_sem] theorem Tryz.appc23 (E:Ent) (ops:Array Oper) (Q:AS→Prop) (rest:List Oper) (e:Nat) (τ : Nat→V) (H:Heap) (a b:V):appC Tryz.prog E ops Q rest e τ H [23,23] a b=appE Tryz.prog E ops Q rest e τ H 3 48 a (srcCells H 3 b) (obS H a):=appC_E ops Tryz.app23 e a b
theorem Tryz.shape24:shapeOf Tryz.prog 24=some (false,1):=by kernel_rfl
@[go_sem] theorem Tryz.load24 (H:Heap) (a:V):readV Tryz.prog H 24 a=loadK (some (false,1)) (obOf H a) a:=readV_K Tryz.shape24 H a
@[go_sem] theorem Tryz.sz24:szOf Tryz.prog 24=some 1:=by kernel_rfl
theorem Tryz.shape27:shapeOf Tryz.prog 27=some (false,1):=by kernel_rfl
@[go_sem] theorem Tryz.load27 (H:Heap) (a:V):readV Tryz.prog H 27 a=loadK (some (false,1)) (obOf H a) a:=readV_K Tryz.shape27 H a
@[go_sem] theorem Tryz.sz27:szOf Tryz.prog 27=some 1:=by kernel_rfl
theorem Tryz.elem27:elemOf Tryz.prog 27=some 3:=by kernel_rfl
@[go_sem] theorem Tryz.idx27 (a i:V):indexAddrV Tryz.prog 27 a i=idxK (some 3) a i:=indexAddrV_K Tryz.elem27 a i
@[go_sem] theorem Tryz.len27 (a:V):lenV Tryz.prog 27 a=lenK true a:=lenV_slice Tryz.elem27 a
@[go_sem] theorem Tryz.bs27 (n:Nat) (l:List (Nat × V)):bsCells Tryz.prog 27 n l=bsK 3 [.int .u8 0,.str [],.nils] n l:=bsCells_K (P:=Tryz.prog) (t:=27) (e:=55) (m:=3) (z:=[.int .u8 0,.str [],.nils]) (by kernel_rfl) (by kernel_rfl) (by kernel_rfl) rfl n l
theorem Tryz.app27:appOf Tryz.prog [27,27]=some (3,48):=by kernel_rfl
@[go_sem] theorem Tryz.appc27 (E:Ent) (ops:Array Oper) (Q:AS→Prop) (rest:List Oper) (e:Nat) (τ : Nat→V) (H:Heap) (a b:V):appC Tryz.prog E ops Q rest e τ H [27,27] a b=appE Tryz.prog E ops Q rest e τ H 3 48 a (srcCells H 3 b) (obS H a):=appC_E ops Tryz.app27 e a b
theorem Tryz.shape29:shapeOf Tryz.prog 29=some (true,1):=by kernel_rfl
@[go_sem] theorem Tryz.load29 (H:Heap) (a:V):readV Tryz.prog H 29 a=loadK (some (true,1)) (obOf H a) a:=readV_K Tryz.shape29 H a
@[go_sem] theorem Tryz.sz29:szOf Tryz.prog 29=some 1:=by kernel_rfl
@[go_sem] theorem Tryz.zero29:zeroC Tryz.prog 29=some [.nils]:=by kernel_rfl
@[go_sem] theorem Tryz.bld29 (l:List (Nat × V)):buildV Tryz.prog 29 l=(fillV (tblP [(0,1)]) [.nils] l).map .agg:=buildV_K (P:=Tryz.prog) (t:=29) (tbl:=[(0,1)]) (z:=[.nils]) (by kernel_rfl) (by kernel_rfl) l
theorem Tryz.fld29_0:fldOf Tryz.prog 29 0=some (0,false,1):=by kernel_rfl
@[go_sem] theorem Tryz.fa29_0 (a:V):fieldAddrV Tryz.prog 29 a 0=fldK (some (0,false,1)) a:=fieldAddrV_K Tryz.fld29_0 a
theorem Tryz.shape36:shapeOf Tryz.prog 36=some (false,1):=by kernel_rfl
@[go_sem] theorem Tryz.load36 (H:Heap) (a:V):readV Tryz.prog H 36 a=loadK (some (false,1)) (obOf H a) a:=readV_K Tryz.shape36 H a
theorem Tryz.nk36:nilKind Tryz.prog 36=2:=by kernel_rfl
@[go_sem] theorem Tryz.eqn36 (a:V):binV Tryz.prog .eql 36 a .nils=(nilK 2 a).map .bool:=(binV_nil _ _ Tryz.nk36 (by simp) a).1
theorem Tryz.elem36:elemOf Tryz.prog 36=some 1:=by kernel_rfl
@[go_sem] theorem Tryz.idx36 (a i:V):indexAddrV Tryz.prog 36 a i=idxK (some 1) a i:=indexAddrV_K Tryz.elem36 a i
@[go_sem] theorem Tryz.len36 (a:V):lenV Tryz.prog 36 a=lenK true a:=lenV_slice Tryz.elem36 a
@[go_sem] theorem Tryz.bs36 (n:Nat) (l:List (Nat × V)):bsCells Tryz.prog 36 n l=bsK 1 [.str []] n l:=bsCells_K (P:=Tryz.prog) (t:=36) (e:=9) (m:=1) (z:=[.str []]) (by kernel_rfl) (by kernel_rfl) (by kernel_rfl) rfl n l
theorem Tryz.app36:appOf Tryz.prog [36,36]=some (1,16):=by kernel_rfl
@[go_sem] theorem Tryz.appc36 (E:Ent) (ops:Array Oper) (Q:AS→Prop) (rest:List Oper) (e:Nat) (τ : Nat→V) (H:Heap) (a b:V):appC Tryz.prog E ops Q rest e τ H [36,36] a b=appE Tryz.prog E ops Q rest e τ H 1 16 a (srcCells H 1 b) (obS H a):=appC_E ops Tryz.app36 e a b
theorem Tryz.shape51:shapeOf Tryz.prog 51=some (false,1):=by kernel_rfl
@[go_sem] theorem Tryz.load51 (H:Heap) (a:V):readV Tryz.prog H 51 a=loadK (some (false,1)) (obOf H a) a:=readV_K Tryz.shape51 H a
@[go_sem] theorem Tryz.sz51:szOf Tryz.prog 51=some 1:=by kernel_rfl
theorem Tryz.elem51:elemOf Tryz.prog 51=some 6:=by kernel_rfl
@[go_sem] theorem Tryz.idx51 (a i:V):indexAddrV Tryz.prog 51 a i=idxK (some 6) a i:=indexAddrV_K Tryz.elem51 a i
@[go_sem] theorem Tryz.len51 (a:V):lenV Tryz.prog 51 a=lenK true a:=lenV_slice Tryz.elem51 a
@[go_sem] theorem Tryz.bs51 (n:Nat) (l:List (Nat × V)):bsCells Tryz.prog 51 n l=bsK 6 [.int .u8 0,.int .i64 0,.str [],.int .i64 0,.int .i64 0,.int .i64 0] n l:=bsCells_K (P:=Tryz.prog) (t:=51) (e:=112) (m:=6) (z:=[.int .u8 0,.int .i64 0,.str [],.int .i64 0,.int .i64 0,.int .i64 0]) (by kernel_rfl) (by kernel_rfl) (by kernel_rfl) rfl n l
theorem Tryz.app51:appOf Tryz.prog [51,51]=some (6,56):=by kernel_rfl
@[go_sem] theorem Tryz.appc51 (E:Ent) (ops:Array Oper) (Q:AS→Prop) (rest:List Oper) (e:Nat) (τ : Nat→V) (H:Heap) (a b:V):appC Tryz.prog E ops Q rest e τ H [51,51] a b=appE Tryz.prog E ops Q rest e τ H 6 56 a (srcCells H 6 b) (obS H a):=appC_E ops Tryz.app51 e a b
theorem Tryz.shape53:shapeOf Tryz.prog 53=some (true,1):=by kernel_rfl
@[go_sem] theorem Tryz.load53 (H:Heap) (a:V):readV Tryz.prog H 53 a=loadK (some (true,1)) (obOf H a) a:=readV_K Tryz.shape53 H a
@[go_sem] theorem Tryz.sz53:szOf Tryz.prog 53=some 1:=by kernel_rfl
@[go_sem] theorem Tryz.zero53:zeroC Tryz.prog 53=some [.nils]:=by kernel_rfl
@[go_sem] theorem Tryz.bld53 (l:List (Nat × V)):buildV Tryz.prog 53 l=(fillV (tblP [(0,1)]) [.nils] l).map .agg:=buildV_K (P:=Tryz.prog) (t:=53) (tbl:=[(0,1)]) (z:=[.nils]) (by kernel_rfl) (by kernel_rfl) l
theorem Tryz.fld53_0:fldOf Tryz.prog 53 0=some (0,false,1):=by kernel_rfl
@[go_sem] theorem Tryz.fa53_0 (a:V):fieldAddrV Tryz.prog 53 a 0=fldK (some (0,false,1)) a:=fieldAddrV_K Tryz.fld53_0 a
theorem Tryz.shape55:shapeOf Tryz.prog 55=some (true,3):=by kernel_rfl
@[go_sem] theorem Tryz.load55 (H:Heap) (a:V):readV Tryz.prog H 55 a=loadK (some (true,3)) (obOf H a) a:=readV_K Tryz.shape55 H a
@[go_sem] theorem Tryz.sz55:szOf Tryz.prog 55=some 3:=by kernel_rfl
@[go_sem] theorem Tryz.zero55:zeroC Tryz.prog 55=some [.int .u8 0,.str [],.nils]:=by kernel_rfl
theorem Tryz.fld55_0:fldOf Tryz.prog 55 0=some (0,false,1):=by kernel_rfl
@[go_sem] theorem Tryz.fa55_0 (a:V):fieldAddrV Tryz.prog 55 a 0=fldK (some (0,false,1)) a:=fieldAddrV_K Tryz.fld55_0 a
theorem Tryz.fld55_1:fldOf Tryz.prog 55 1=some (1,false,1):=by kernel_rfl
@[go_sem] theorem Tryz.fa55_1 (a:V):fieldAddrV Tryz.prog 55 a 1=fldK (some (1,false,1)) a:=fieldAddrV_K Tryz.fld55_1 a
theorem Tryz.fld55_2:fldOf Tryz.prog 55 2=some (2,true,1):=by kernel_rfl
@[go_sem] theorem Tryz.fa55_2 (a:V):fieldAddrV Tryz.prog 55 a 2=fldK (some (2,true,1)) a:=fieldAddrV_K Tryz.fld55_2 a
theorem Tryz.shape96:shapeOf Tryz.prog 96=some (false,1):=by kernel_rfl
@[go_sem] theorem Tryz.load96 (H:Heap) (a:V):readV Tryz.prog H 96 a=loadK (some (false,1)) (obOf H a) a:=readV_K Tryz.shape96 H a
@[go_sem] theorem Tryz.sz96:szOf Tryz.prog 96=some 1:=by kernel_rfl
theorem Tryz.elem96:elemOf Tryz.prog 96=some 6:=by kernel_rfl
@[go_sem] theorem Tryz.idx96 (a i:V):indexAddrV Tryz.prog 96 a i=idxK (some 6) a i:=indexAddrV_K Tryz.elem96 a i
@[go_sem] theorem Tryz.len96 (a:V):lenV Tryz.prog 96 a=lenK true a:=lenV_slice Tryz.elem96 a
@[go_sem] theorem Tryz.bs96 (n:Nat) (l:List (Nat × V)):bsCells Tryz.prog 96 n l=bsK 6 [.int .u8 0,.int .i64 0,.str [],.int .i64 0,.int .i64 0,.int .i64 0] n l:=bsCells_K (P:=Tryz.prog) (t:=96) (e:=111) (m:=6) (z:=[.int .u8 0,.int .i64 0,.str [],.int .i64 0,.int .i64 0,.int .i64 0]) (by kernel_rfl) (by kernel_rfl) (by kernel_rfl) rfl n l
theorem Tryz.app96:appOf Tryz.prog [96,96]=some (6,56):=by kernel_rfl
@[go_sem] theorem Tryz.appc96 (E:Ent) (ops:Array Oper) (Q:AS→Prop) (rest:List Oper) (e:Nat) (τ : Nat→V) (H:Heap) (a b:V):appC Tryz.prog E ops Q rest e τ H [96,96] a b=appE Tryz.prog E ops Q rest e τ H 6 56 a (srcCells H 6 b) (obS H a):=appC_E ops Tryz.app96 e a b
theorem Tryz.shape98:shapeOf Tryz.prog 98=some (true,3):=by kernel_rfl
@[go_sem] theorem Tryz.load98 (H:Heap) (a:V):readV Tryz.prog H 98 a=loadK (some (true,3)) (obOf H a) a:=readV_K Tryz.shape98 H a
@[go_sem] theorem Tryz.sz98:szOf Tryz.prog 98=some 3:=by kernel_rfl
@[go_sem] theorem Tryz.zero98:zeroC Tryz.prog 98=some [.int .u8 0,.str [],.nils]:=by kernel_rfl
@[go_sem] theorem Tryz.bld98 (l:List (Nat × V)):buildV Tryz.prog 98 l=(fillV (tblP [(0,1),(1,1),(2,1)]) [.int .u8 0,.str [],.nils] l).map .agg:=buildV_K (P:=Tryz.prog) (t:=98) (tbl:=[(0,1),(1,1),(2,1)]) (z:=[.int .u8 0,.str [],.nils]) (by kernel_rfl) (by kernel_rfl) l
theorem Tryz.fld98_0:fldOf Tryz.prog 98 0=some (0,false,1):=by kernel_rfl
@[go_sem] theorem Tryz.fa98_0 (a:V):fieldAddrV Tryz.prog 98 a 0=fldK (some (0,false,1)) a:=fieldAddrV_K Tryz.fld98_0 a
theorem Tryz.fld98_1:fldOf Tryz.prog 98 1=some (1,false,1):=by kernel_rfl
@[go_sem] theorem Tryz.fa98_1 (a:V):fieldAddrV Tryz.prog 98 a 1=fldK (some (1,false,1)) a:=fieldAddrV_K Tryz.fld98_1 a
theorem Tryz.fld98_2:fldOf Tryz.prog 98 2=some (2,false,1):=by kernel_rfl
@[go_sem] theorem Tryz.fa98_2 (a:V):fieldAddrV Tryz.prog 98 a 2=fldK (some (2,false,1)) a:=fieldAddrV_K Tryz.fld98_2 a
theorem Tryz.shape101:shapeOf Tryz.prog 101=some (false,1):=by kernel_rfl
@[go_sem] theorem Tryz.load101 (H:Heap) (a:V):readV Tryz.prog H 101 a=loadK (some (false,1)) (obOf H a) a:=readV_K Tryz.shape101 H a
theorem Tryz.elem101:elemOf Tryz.prog 101=some 3:=by kernel_rfl
@[go_sem] theorem Tryz.idx101 (a i:V):indexAddrV Tryz.prog 101 a i=idxK (some 3) a i:=indexAddrV_K Tryz.elem101 a i
@[go_sem] theorem Tryz.len101 (a:V):lenV Tryz.prog 101 a=lenK true a:=lenV_slice Tryz.elem101 a
@[go_sem] theorem Tryz.sl101 (a:V) (lo hi:Option V):sliceV Tryz.prog 101 a lo hi none=slK 3 a lo hi:=sliceV_K Tryz.elem101 a lo hi
@[go_sem] theorem Tryz.bs101 (n:Nat) (l:List (Nat × V)):bsCells Tryz.prog 101 n l=bsK 3 [.int .u8 0,.str [],.int .i64 0] n l:=bsCells_K (P:=Tryz.prog) (t:=101) (e:=109) (m:=3) (z:=[.int .u8 0,.str [],.int .i64 0]) (by kernel_rfl) (by kernel_rfl) (by kernel_rfl) rfl n l
theorem Tryz.app101:appOf Tryz.prog [101,101]=some (3,32):=by kernel_rfl
@[go_sem] theorem Tryz.appc101 (E:Ent) (ops:Array Oper) (Q:AS→Prop) (rest:List Oper) (e:Nat) (τ : Nat→V) (H:Heap) (a b:V):appC Tryz.prog E ops Q rest e τ H [101,101] a b=appE Tryz.prog E ops Q rest e τ H 3 32 a (srcCells H 3 b) (obS H a):=appC_E ops Tryz.app101 e a b
@[go_sem] theorem Tryz.bld106 (l:List (Nat × V)):buildV Tryz.prog 106 l=(fillV (tblP [(0,1),(1,1),(2,1)]) [.nils,.int .i64 0,.int .i64 0] l).map .agg:=buildV_K (P:=Tryz.prog) (t:=106) (tbl:=[(0,1),(1,1),(2,1)]) (z:=[.nils,.int .i64 0,.int .i64 0]) (by kernel_rfl) (by kernel_rfl) l
theorem Tryz.fld106_0:fldOf Tryz.prog 106 0=some (0,false,1):=by kernel_rfl
@[go_sem] theorem Tryz.fa106_0 (a:V):fieldAddrV Tryz.prog 106 a 0=fldK (some (0,false,1)) a:=fieldAddrV_K Tryz.fld106_0 a
theorem Tryz.fld106_1:fldOf Tryz.prog 106 1=some (1,false,1):=by kernel_rfl
@[go_sem] theorem Tryz.fa106_1 (a:V):fieldAddrV Tryz.prog 106 a 1=fldK (some (1,false,1)) a:=fieldAddrV_K Tryz.fld106_1 a
theorem Tryz.fld106_2:fldOf Tryz.prog 106 2=some (2,false,1):=by kernel_rfl
@[go_sem] theorem Tryz.fa106_2 (a:V):fieldAddrV Tryz.prog 106 a 2=fldK (some (2,false,1)) a:=fieldAddrV_K Tryz.fld106_2 a
@[go_sem] theorem Tryz.bld108 (l:List (Nat × V)):buildV Tryz.prog 108 l=(fillV (tblP [(0,3),(3,1)]) [.nils,.int .i64 0,.int .i64 0,.nils] l).map .agg:=buildV_K (P:=Tryz.prog) (t:=108) (tbl:=[(0,3),(3,1)]) (z:=[.nils,.int .i64 0,.int .i64 0,.nils]) (by kernel_rfl) (by kernel_rfl) l
theorem Tryz.fld108_0:fldOf Tryz.prog 108 0=some (0,true,3):=by kernel_rfl
@[go_sem] theorem Tryz.fa108_0 (a:V):fieldAddrV Tryz.prog 108 a 0=fldK (some (0,true,3)) a:=fieldAddrV_K Tryz.fld108_0 a
theorem Tryz.fld108_1:fldOf Tryz.prog 108 1=some (3,false,1):=by kernel_rfl
@[go_sem] theorem Tryz.fa108_1 (a:V):fieldAddrV Tryz.prog 108 a 1=fldK (some (3,false,1)) a:=fieldAddrV_K Tryz.fld108_1 a
theorem Tryz.shape109:shapeOf Tryz.prog 109=some (true,3):=by kernel_rfl
@[go_sem] theorem Tryz.load109 (H:Heap) (a:V):readV Tryz.prog H 109 a=loadK (some (true,3)) (obOf H a) a:=readV_K Tryz.shape109 H a
@[go_sem] theorem Tryz.sz109:szOf Tryz.prog 109=some 3:=by kernel_rfl
@[go_sem] theorem Tryz.zero109:zeroC Tryz.prog 109=some [.int .u8 0,.str [],.int .i64 0]:=by kernel_rfl
@[go_sem] theorem Tryz.bld109 (l:List (Nat × V)):buildV Tryz.prog 109 l=(fillV (tblP [(0,1),(1,1),(2,1)]) [.int .u8 0,.str [],.int .i64 0] l).map .agg:=buildV_K (P:=Tryz.prog) (t:=109) (tbl:=[(0,1),(1,1),(2,1)]) (z:=[.int .u8 0,.str [],.int .i64 0]) (by kernel_rfl) (by kernel_rfl) l
theorem Tryz.fld109_0:fldOf Tryz.prog 109 0=some (0,false,1):=by kernel_rfl
@[go_sem] theorem Tryz.fa109_0 (a:V):fieldAddrV Tryz.prog 109 a 0=fldK (some (0,false,1)) a:=fieldAddrV_K Tryz.fld109_0 a
theorem Tryz.fld109_1:fldOf Tryz.prog 109 1=some (1,false,1):=by kernel_rfl
@[go_sem] theorem Tryz.fa109_1 (a:V):fieldAddrV Tryz.prog 109 a 1=fldK (some (1,false,1)) a:=fieldAddrV_K Tryz.fld109_1 a
theorem Tryz.fld109_2:fldOf Tryz.prog 109 2=some (2,false,1):=by kernel_rfl
@[go_sem] theorem Tryz.fa109_2 (a:V):fieldAddrV Tryz.prog 109 a 2=fldK (some (2,false,1)) a:=fieldAddrV_K Tryz.fld109_2 a
theorem Tryz.shape111:shapeOf Tryz.prog 111=some (true,6):=by kernel_rfl
@[go_sem] theorem Tryz.load111 (H:Heap) (a:V):readV Tryz.prog H 111 a=loadK (some (true,6)) (obOf H a) a:=readV_K Tryz.shape111 H a
@[go_sem] theorem Tryz.sz111:szOf Tryz.prog 111=some 6:=by kernel_rfl
@[go_sem] theorem Tryz.zero111:zeroC Tryz.prog 111=some [.int .u8 0,.int .i64 0,.str [],.int .i64 0,.int .i64 0,.int .i64 0]:=by kernel_rfl
@[go_sem] theorem Tryz.bld111 (l:List (Nat × V)):buildV Tryz.prog 111 l=(fillV (tblP [(0,1),(1,1),(2,1),(3,1),(4,1),(5,1)]) [.int .u8 0,.int .i64 0,.str [],.int .i64 0,.int .i64 0,.int .i64 0] l).map .agg:=buildV_K (P:=Tryz.prog) (t:=111) (tbl:=[(0,1),(1,1),(2,1),(3,1),(4,1),(5,1)]) (z:=[.int .u8 0,.int .i64 0,.str [],.int .i64 0,.int .i64 0,.int .i64 0]) (by kernel_rfl) (by kernel_rfl) l
theorem Tryz.fld111_0:fldOf Tryz.prog 111 0=some (0,false,1):=by kernel_rfl
@[go_sem] theorem Tryz.fa111_0 (a:V):fieldAddrV Tryz.prog 111 a 0=fldK (some (0,false,1)) a:=fieldAddrV_K Tryz.fld111_0 a
theorem Tryz.fld111_1:fldOf Tryz.prog 111 1=some (1,false,1):=by kernel_rfl
@[go_sem] theorem Tryz.fa111_1 (a:V):fieldAddrV Tryz.prog 111 a 1=fldK (some (1,false,1)) a:=fieldAddrV_K Tryz.fld111_1 a
theorem Tryz.fld111_2:fldOf Tryz.prog 111 2=some (2,false,1):=by kernel_rfl
@[go_sem] theorem Tryz.fa111_2 (a:V):fieldAddrV Tryz.prog 111 a 2=fldK (some (2,false,1)) a:=fieldAddrV_K Tryz.fld111_2 a
theorem Tryz.fld111_3:fldOf Tryz.prog 111 3=some (3,false,1):=by kernel_rfl
@[go_sem] theorem Tryz.fa111_3 (a:V):fieldAddrV Tryz.prog 111 a 3=fldK (some (3,false,1)) a:=fieldAddrV_K Tryz.fld111_3 a
theorem Tryz.fld111_4:fldOf Tryz.prog 111 4=some (4,false,1):=by kernel_rfl
@[go_sem] theorem Tryz.fa111_4 (a:V):fieldAddrV Tryz.prog 111 a 4=fldK (some (4,false,1)) a:=fieldAddrV_K Tryz.fld111_4 a
theorem Tryz.fld111_5:fldOf Tryz.prog 111 5=some (5,false,1):=by kernel_rfl
@[go_sem] theorem Tryz.fa111_5 (a:V):fieldAddrV Tryz.prog 111 a 5=fldK (some (5,false,1)) a:=fieldAddrV_K Tryz.fld111_5 a
@[go_sem] theorem Tryz.neqs111 (x0 y0:Int) (x1 y1:Int) (x2 y2:List UInt8) (x3 y3:Int) (x4 y4:Int) (x5 y5:Int):binV Tryz.prog .neq 111 (.agg [.int .u8 x0,.int .i64 x1,.str x2,.int .i64 x3,.int .i64 x4,.int .i64 x5]) (.agg [.int .u8 y0,.int .i64 y1,.str y2,.int .i64 y3,.int .i64 y4,.int .i64 y5])=some (.bool (!(x0==y0 && (x1==y1 && (x2==y2 && (x3==y3 && (x4==y4 && (x5==y5 && true)))))))):=(binV_flat (P:=Tryz.prog) (t:=111) (by kernel_rfl) (eqCs_int (eqCs_int (eqCs_str (eqCs_int (eqCs_int (eqCs_int eqCs_nil .i64 x5 y5) .i64 x4 y4) .i64 x3 y3) x2 y2) .i64 x1 y1) .u8 x0 y0)).2
theorem Tryz.shape112:shapeOf Tryz.prog 112=some (true,6):=by kernel_rfl
@[go_sem] theorem Tryz.load112 (H:Heap) (a:V):readV Tryz.prog H 112 a=loadK (some (true,6)) (obOf H a) a:=readV_K Tryz.shape112 H a
@[go_sem] theorem Tryz.sz112:szOf Tryz.prog 112=some 6:=by kernel_rfl
@[go_sem] theorem Tryz.zero112:zeroC Tryz.prog 112=some [.int .u8 0,.int .i64 0,.str [],.int .i64 0,.int .i64 0,.int .i64 0]:=by kernel_rfl
@[go_sem] theorem Tryz.bld112 (l:List (Nat × V)):buildV Tryz.prog 112 l=(fillV (tblP [(0,1),(1,1),(2,1),(3,1),(4,1),(5,1)]) [.int .u8 0,.int .i64 0,.str [],.int .i64 0,.int .i64 0,.int .i64 0] l).map .agg:=buildV_K (P:=Tryz.prog) (t:=112) (tbl:=[(0,1),(1,1),(2,1),(3,1),(4,1),(5,1)]) (z:=[.int .u8 0,.int .i64 0,.str [],.int .i64 0,.int .i64 0,.int .i64 0]) (by kernel_rfl) (by kernel_rfl) l
theorem Tryz.fld112_0:fldOf Tryz.prog 112 0=some (0,false,1):=by kernel_rfl
@[go_sem] theorem Tryz.fa112_0 (a:V):fieldAddrV Tryz.prog 112 a 0=fldK (some (0,false,1)) a:=fieldAddrV_K Tryz.fld112_0 a
theorem Tryz.fld112_1:fldOf Tryz.prog 112 1=some (1,false,1):=by kernel_rfl
@[go_sem] theorem Tryz.fa112_1 (a:V):fieldAddrV Tryz.prog 112 a 1=fldK (some (1,false,1)) a:=fieldAddrV_K Tryz.fld112_1 a
theorem Tryz.fld112_2:fldOf Tryz.prog 112 2=some (2,false,1):=by kernel_rfl
@[go_sem] theorem Tryz.fa112_2 (a:V):fieldAddrV Tryz.prog 112 a 2=fldK (some (2,false,1)) a:=fieldAddrV_K Tryz.fld112_2 a
theorem Tryz.fld112_3:fldOf Tryz.prog 112 3=some (3,false,1):=by kernel_rfl
@[go_sem] theorem Tryz.fa112_3 (a:V):fieldAddrV Tryz.prog 112 a 3=fldK (some (3,false,1)) a:=fieldAddrV_K Tryz.fld112_3 a
theorem Tryz.fld112_4:fldOf Tryz.prog 112 4=some (4,false,1):=by kernel_rfl
@[go_sem] theorem Tryz.fa112_4 (a:V):fieldAddrV Tryz.prog 112 a 4=fldK (some (4,false,1)) a:=fieldAddrV_K Tryz.fld112_4 a
theorem Tryz.fld112_5:fldOf Tryz.prog 112 5=some (5,false,1):=by kernel_rfl
@[go_sem] theorem Tryz.fa112_5 (a:V):fieldAddrV Tryz.prog 112 a 5=fldK (some (5,false,1)) a:=fieldAddrV_K Tryz.fld112_5 a
@[go_sem] theorem Tryz.neqs112 (x0 y0:Int) (x1 y1:Int) (x2 y2:List UInt8) (x3 y3:Int) (x4 y4:Int) (x5 y5:Int):binV Tryz.prog .neq 112 (.agg [.int .u8 x0,.int .i64 x1,.str x2,.int .i64 x3,.int .i64 x4,.int .i64 x5]) (.agg [.int .u8 y0,.int .i64 y1,.str y2,.int .i64 y3,.int .i64 y4,.int .i64 y5])=some (.bool (!(x0==y0 && (x1==y1 && (x2==y2 && (x3==y3 && (x4==y4 && (x5==y5 && true)))))))):=(binV_flat (P:=Tryz.prog) (t:=112) (by kernel_rfl) (eqCs_int (eqCs_int (eqCs_str (eqCs_int (eqCs_int (eqCs_int eqCs_nil .i64 x5 y5) .i64 x4 y4) .i64 x3 y3) x2 y2) .i64 x1 y1) .u8 x0 y0)).2
theorem Tryz.shape166:shapeOf Tryz.prog 166=some (false,1):=by kernel_rfl
@[go_sem] theorem Tryz.load166 (H:Heap) (a:V):readV Tryz.prog H 166 a=loadK (some (false,1)) (obOf H a) a:=readV_K Tryz.shape166 H a
theorem Tryz.elem166:elemOf Tryz.prog 166=some 1:=by kernel_rfl
@[go_sem] theorem Tryz.idx166 (a i:V):indexAddrV Tryz.prog 166 a i=idxK (some 1) a i:=indexAddrV_K Tryz.elem166 a i
@[go_sem] theorem Tryz.len166 (a:V):lenV Tryz.prog 166 a=lenK true a:=lenV_slice Tryz.elem166 a
@[go_sem] theorem Tryz.bs166 (n:Nat) (l:List (Nat × V)):bsCells Tryz.prog 166 n l=bsK 1 [.int .u8 0] n l:=bsCells_K (P:=Tryz.prog) (t:=166) (e:=5) (m:=1) (z:=[.int .u8 0]) (by kernel_rfl) (by kernel_rfl) (by kernel_rfl) rfl n l
theorem Tryz.app166:appOf Tryz.prog [166,166]=some (1,1):=by kernel_rfl
@[go_sem] theorem Tryz.appc166 (E:Ent) (ops:Array Oper) (Q:AS→Prop) (rest:List Oper) (e:Nat) (τ : Nat→V) (H:Heap) (a b:V):appC Tryz.prog E ops Q rest e τ H [166,166] a b=appE Tryz.prog E ops Q rest e τ H 1 1 a (srcCells H 1 b) (obS H a):=appC_E ops Tryz.app166 e a b
theorem Tryz.shape188:shapeOf Tryz.prog 188=some (false,1):=by kernel_rfl
@[go_sem] theorem Tryz.load188 (H:Heap) (a:V):readV Tryz.prog H 188 a=loadK (some (false,1)) (obOf H a) a:=readV_K Tryz.shape188 H a
@[go_sem] theorem Tryz.sz188:szOf Tryz.prog 188=some 1:=by kernel_rfl
theorem Tryz.elem188:elemOf Tryz.prog 188=some 1:=by kernel_rfl
@[go_sem] theorem Tryz.idx188 (a i:V):indexAddrV Tryz.prog 188 a i=idxK (some 1) a i:=indexAddrV_K Tryz.elem188 a i
@[go_sem] theorem Tryz.len188 (a:V):lenV Tryz.prog 188 a=lenK true a:=lenV_slice Tryz.elem188 a
@[go_sem] theorem Tryz.bs188 (n:Nat) (l:List (Nat × V)):bsCells Tryz.prog 188 n l=bsK 1 [.int .i64 0] n l:=bsCells_K (P:=Tryz.prog) (t:=188) (e:=3) (m:=1) (z:=[.int .i64 0]) (by kernel_rfl) (by kernel_rfl) (by kernel_rfl) rfl n l
theorem Tryz.app188:appOf Tryz.prog [188,188]=some (1,8):=by kernel_rfl
@[go_sem] theorem Tryz.appc188 (E:Ent) (ops:Array Oper) (Q:AS→Prop) (rest:List Oper) (e:Nat) (τ : Nat→V) (H:Heap) (a b:V):appC Tryz.prog E ops Q rest e τ H [188,188] a b=appE Tryz.prog E ops Q rest e τ H 1 8 a (srcCells H 1 b) (obS H a):=appC_E ops Tryz.app188 e a b
@[go_sem] theorem Tryz.ia206 (a:V) (ik:IntKind) (n:Int):indexAddrV Tryz.prog 206 a (.int ik n)=idxA 14 1 false a ik n:=indexAddrV_A (P:=Tryz.prog) (e:=9) (by kernel_rfl) (by kernel_rfl) (by kernel_rfl) (by decide) a ik n
theorem Tryz.shape214:shapeOf Tryz.prog 214=some (true,3):=by kernel_rfl
@[go_sem] theorem Tryz.load214 (H:Heap) (a:V):readV Tryz.prog H 214 a=loadK (some (true,3)) (obOf H a) a:=readV_K Tryz.shape214 H a
@[go_sem] theorem Tryz.sz214:szOf Tryz.prog 214=some 3:=by kernel_rfl
@[go_sem] theorem Tryz.zero214:zeroC Tryz.prog 214=some [.int .u8 0,.int .u8 0,.int .u8 0]:=by kernel_rfl
@[go_sem] theorem Tryz.bld214 (l:List (Nat × V)):buildV Tryz.prog 214 l=(fillV (tblP [(0,1),(1,1),(2,1)]) [.int .u8 0,.int .u8 0,.int .u8 0] l).map .agg:=buildV_K (P:=Tryz.prog) (t:=214) (tbl:=[(0,1),(1,1),(2,1)]) (z:=[.int .u8 0,.int .u8 0,.int .u8 0]) (by kernel_rfl) (by kernel_rfl) l
theorem Tryz.fld214_0:fldOf Tryz.prog 214 0=some (0,false,1):=by kernel_rfl
@[go_sem] theorem Tryz.fa214_0 (a:V):fieldAddrV Tryz.prog 214 a 0=fldK (some (0,false,1)) a:=fieldAddrV_K Tryz.fld214_0 a
theorem Tryz.fld214_1:fldOf Tryz.prog 214 1=some (1,false,1):=by kernel_rfl
@[go_sem] theorem Tryz.fa214_1 (a:V):fieldAddrV Tryz.prog 214 a 1=fldK (some (1,false,1)) a:=fieldAddrV_K Tryz.fld214_1 a
theorem Tryz.fld214_2:fldOf Tryz.prog 214 2=some (2,false,1):=by kernel_rfl
@[go_sem] theorem Tryz.fa214_2 (a:V):fieldAddrV Tryz.prog 214 a 2=fldK (some (2,false,1)) a:=fieldAddrV_K Tryz.fld214_2 a
theorem Tryz.shape216:shapeOf Tryz.prog 216=some (true,4):=by kernel_rfl
@[go_sem] theorem Tryz.load216 (H:Heap) (a:V):readV Tryz.prog H 216 a=loadK (some (true,4)) (obOf H a) a:=readV_K Tryz.shape216 H a
@[go_sem] theorem Tryz.sz216:szOf Tryz.prog 216=some 4:=by kernel_rfl
@[go_sem] theorem Tryz.zero216:zeroC Tryz.prog 216=some [.int .u8 0,.int .u8 0,.int .u8 0,.int .u8 0]:=by kernel_rfl
@[go_sem] theorem Tryz.bld216 (l:List (Nat × V)):buildV Tryz.prog 216 l=(fillV (tblP [(0,3),(3,1)]) [.int .u8 0,.int .u8 0,.int .u8 0,.int .u8 0] l).map .agg:=buildV_K (P:=Tryz.prog) (t:=216) (tbl:=[(0,3),(3,1)]) (z:=[.int .u8 0,.int .u8 0,.int .u8 0,.int .u8 0]) (by kernel_rfl) (by kernel_rfl) l
theorem Tryz.fld216_0:fldOf Tryz.prog 216 0=some (0,true,3):=by kernel_rfl
@[go_sem] theorem Tryz.fa216_0 (a:V):fieldAddrV Tryz.prog 216 a 0=fldK (some (0,true,3)) a:=fieldAddrV_K Tryz.fld216_0 a
theorem Tryz.fld216_1:fldOf Tryz.prog 216 1=some (3,false,1):=by kernel_rfl
@[go_sem] theorem Tryz.fa216_1 (a:V):fieldAddrV Tryz.prog 216 a 1=fldK (some (3,false,1)) a:=fieldAddrV_K Tryz.fld216_1 a
theorem Tryz.shape217:shapeOf Tryz.prog 217=some (true,92):=by kernel_rfl
@[go_sem] theorem Tryz.load217 (H:Heap) (a:V):readV Tryz.prog H 217 a=loadK (some (true,92)) (obOf H a) a:=readV_K Tryz.shape217 H a
@[go_sem] theorem Tryz.sz217:szOf Tryz.prog 217=some 92:=by kernel_rfl
@[go_sem] theorem Tryz.zero217:zeroC Tryz.prog 217=some (.int .u8 0 :: .int .u8 0 :: .int .u8 0 :: .int .u8 0 :: .int .u8 0 :: .int .u8 0 :: .int .u8 0 :: .int .u8 0 :: .int .u8 0 :: .int .u8 0 :: .int .u8 0 :: .int .u8 0 :: .int .u8 0 :: .int .u8 0 :: .int .u8 0 :: .int .u8 0 :: .int .u8 0 :: .int .u8 0 :: .int .u8 0 :: .int .u8 0 :: .int .u8 0 :: .int .u8 0 :: .int .u8 0 :: .int .u8 0 :: .int .u8 0 :: .int .u8 0 :: .int .u8 0 :: .int .u8 0 :: .int .u8 0 :: .int .u8 0 :: .int .u8 0 :: .int .u8 0 :: .int .u8 0 :: .int .u8 0 :: .int .u8 0 :: .int .u8 0 :: .int .u8 0 :: .int .u8 0 :: .int .u8 0 :: .int .u8 0 :: .int .u8 0 :: .int .u8 0 :: .int .u8 0 :: .int .u8 0 :: .int .u8 0 :: .int .u8 0 :: .int .u8 0 :: .int .u8 0 :: .int .u8 0 :: .int .u8 0 :: .int .u8 0 :: .int .u8 0 :: .int .u8 0 :: .int .u8 0 :: .int .u8 0 :: .int .u8 0 :: .int .u8 0 :: .int .u8 0 :: .int .u8 0 :: .int .u8 0 :: .int .u8 0 :: .int .u8 0 :: .int .u8 0 :: .int .u8 0 :: .int .u8 0 :: .int .u8 0 :: .int .u8 0 :: .int .u8 0 :: .int .u8 0 :: .int .u8 0 :: .int .u8 0 :: .int .u8 0 :: .int .u8 0 :: .int .u8 0 :: .int .u8 0 :: .int .u8 0 :: .int .u8 0 :: .int .u8 0 :: .int .u8 0 :: .int .u8 0 :: .int .u8 0 :: .int .u8 0 :: .int .u8 0 :: .int .u8 0 :: .int .u8 0 :: .int .u8 0 :: .int .u8 0 :: .int .u8 0 :: .int .u8 0 :: .int .u8 0 :: .int .u8 0 :: .int .u8 0::[]):=by kernel_rfl
@[go_sem] theorem Tryz.ia217 (a:V) (ik:IntKind) (n:Int):indexAddrV Tryz.prog 217 a (.int ik n)=idxA 23 4 true a ik n:=indexAddrV_A (P:=Tryz.prog) (e:=216) (by kernel_rfl) (by kernel_rfl) (by kernel_rfl) (by decide) a ik n
@[go_sem] theorem Tryz.bla217 (l:List (Nat × V)):buildV Tryz.prog 217 l=(fillV (mulP 4) (.int .u8 0 :: .int .u8 0 :: .int .u8 0 :: .int .u8 0 :: .int .u8 0 :: .int .u8 0 :: .int .u8 0 :: .int .u8 0 :: .int .u8 0 :: .int .u8 0 :: .int .u8 0 :: .int .u8 0 :: .int .u8 0 :: .int .u8 0 :: .int .u8 0 :: .int .u8 0 :: .int .u8 0 :: .int .u8 0 :: .int .u8 0 :: .int .u8 0 :: .int .u8 0 :: .int .u8 0 :: .int .u8 0 :: .int .u8 0 :: .int .u8 0 :: .int .u8 0 :: .int .u8 0 :: .int .u8 0 :: .int .u8 0 :: .int .u8 0 :: .int .u8 0 :: .int .u8 0 :: .int .u8 0 :: .int .u8 0 :: .int .u8 0 :: .int .u8 0 :: .int .u8 0 :: .int .u8 0 :: .int .u8 0 :: .int .u8 0 :: .int .u8 0 :: .int .u8 0 :: .int .u8 0 :: .int .u8 0 :: .int .u8 0 :: .int .u8 0 :: .int .u8 0 :: .int .u8 0 :: .int .u8 0 :: .int .u8 0 :: .int .u8 0 :: .int .u8 0 :: .int .u8 0 :: .int .u8 0 :: .int .u8 0 :: .int .u8 0 :: .int .u8 0 :: .int .u8 0 :: .int .u8 0 :: .int .u8 0 :: .int .u8 0 :: .int .u8 0 :: .int .u8 0 :: .int .u8 0 :: .int .u8 0 :: .int .u8 0 :: .int .u8 0 :: .int .u8 0 :: .int .u8 0 :: .int .u8 0 :: .int .u8 0 :: .int .u8 0 :: .int .u8 0 :: .int .u8 0 :: .int .u8 0 :: .int .u8 0 :: .int .u8 0 :: .int .u8 0 :: .int .u8 0 :: .int .u8 0 :: .int .u8 0 :: .int .u8 0 :: .int .u8 0 :: .int .u8 0 :: .int .u8 0 :: .int .u8 0 :: .int .u8 0 :: .int .u8 0 :: .int .u8 0 :: .int .u8 0 :: .int .u8 0 :: .int .u8 0::[]) l).map .agg:=buildV_A (P:=Tryz.prog) (N:=23) (e:=216) (by kernel_rfl) (by kernel_rfl) (by kernel_rfl) l
theorem Tryz.shape220:shapeOf Tryz.prog 220=some (true,93):=by kernel_rfl
@[go_sem] theorem Tryz.load220 (H:Heap) (a:V):readV Tryz.prog H 220 a=loadK (some (true,93)) (obOf H a) a:=readV_K Tryz.shape220 H a
@[go_sem] theorem Tryz.sz220:szOf Tryz.prog 220=some 93:=by kernel_rfl
theorem Tryz.fld220_0:fldOf Tryz.prog 220 0=some (0,true,92):=by kernel_rfl
@[go_sem] theorem Tryz.fa220_0 (a:V):fieldAddrV Tryz.prog 220 a 0=fldK (some (0,true,92)) a:=fieldAddrV_K Tryz.fld220_0 a
theorem Tryz.fld220_1:fldOf Tryz.prog 220 1=some (92,false,1):=by kernel_rfl
@[go_sem] theorem Tryz.fa220_1 (a:V):fieldAddrV Tryz.prog 220 a 1=fldK (some (92,false,1)) a:=fieldAddrV_K Tryz.fld220_1 a
theorem Tryz.shape224:shapeOf Tryz.prog 224=some (true,3):=by kernel_rfl
@[go_sem] theorem Tryz.load224 (H:Heap) (a:V):readV Tryz.prog H 224 a=loadK (some (true,3)) (obOf H a) a:=readV_K Tryz.shape224 H a
@[go_sem] theorem Tryz.sz224:szOf Tryz.prog 224=some 3:=by kernel_rfl
@[go_sem] theorem Tryz.zero224:zeroC Tryz.prog 224=some [.str [],.int .i64 0,.int .i64 0]:=by kernel_rfl
@[go_sem] theorem Tryz.bld224 (l:List (Nat × V)):buildV Tryz.prog 224 l=(fillV (tblP [(0,1),(1,1),(2,1)]) [.str [],.int .i64 0,.int .i64 0] l).map .agg:=buildV_K (P:=Tryz.prog) (t:=224) (tbl:=[(0,1),(1,1),(2,1)]) (z:=[.str [],.int .i64 0,.int .i64 0]) (by kernel_rfl) (by kernel_rfl) l
theorem Tryz.fld224_0:fldOf Tryz.prog 224 0=some (0,false,1):=by kernel_rfl
@[go_sem] theorem Tryz.fa224_0 (a:V):fieldAddrV Tryz.prog 224 a 0=fldK (some (0,false,1)) a:=fieldAddrV_K Tryz.fld224_0 a
theorem Tryz.fld224_1:fldOf Tryz.prog 224 1=some (1,false,1):=by kernel_rfl
@[go_sem] theorem Tryz.fa224_1 (a:V):fieldAddrV Tryz.prog 224 a 1=fldK (some (1,false,1)) a:=fieldAddrV_K Tryz.fld224_1 a
theorem Tryz.fld224_2:fldOf Tryz.prog 224 2=some (2,false,1):=by kernel_rfl
@[go_sem] theorem Tryz.fa224_2 (a:V):fieldAddrV Tryz.prog 224 a 2=fldK (some (2,false,1)) a:=fieldAddrV_K Tryz.fld224_2 a
theorem Tryz.shape225:shapeOf Tryz.prog 225=some (true,69):=by kernel_rfl
@[go_sem] theorem Tryz.load225 (H:Heap) (a:V):readV Tryz.prog H 225 a=loadK (some (true,69)) (obOf H a) a:=readV_K Tryz.shape225 H a
@[go_sem] theorem Tryz.sz225:szOf Tryz.prog 225=some 69:=by kernel_rfl
@[go_sem] theorem Tryz.zero225:zeroC Tryz.prog 225=some (.str [] :: .int .i64 0 :: .int .i64 0 :: .str [] :: .int .i64 0 :: .int .i64 0 :: .str [] :: .int .i64 0 :: .int .i64 0 :: .str [] :: .int .i64 0 :: .int .i64 0 :: .str [] :: .int .i64 0 :: .int .i64 0 :: .str [] :: .int .i64 0 :: .int .i64 0 :: .str [] :: .int .i64 0 :: .int .i64 0 :: .str [] :: .int .i64 0 :: .int .i64 0 :: .str [] :: .int .i64 0 :: .int .i64 0 :: .str [] :: .int .i64 0 :: .int .i64 0 :: .str [] :: .int .i64 0 :: .int .i64 0 :: .str [] :: .int .i64 0 :: .int .i64 0 :: .str [] :: .int .i64 0 :: .int .i64 0 :: .str [] :: .int .i64 0 :: .int .i64 0 :: .str [] :: .int .i64 0 :: .int .i64 0 :: .str [] :: .int .i64 0 :: .int .i64 0 :: .str [] :: .int .i64 0 :: .int .i64 0 :: .str [] :: .int .i64 0 :: .int .i64 0 :: .str [] :: .int .i64 0 :: .int .i64 0 :: .str [] :: .int .i64 0 :: .int .i64 0 :: .str [] :: .int .i64 0 :: .int .i64 0 :: .str [] :: .int .i64 0 :: .int .i64 0 :: .str [] :: .int .i64 0 :: .int .i64 0::[]):=by kernel_rfl
@[go_sem] theorem Tryz.ia225 (a:V) (ik:IntKind) (n:Int):indexAddrV Tryz.prog 225 a (.int ik n)=idxA 23 3 true a ik n:=indexAddrV_A (P:=Tryz.prog) (e:=224) (by kernel_rfl) (by kernel_rfl) (by kernel_rfl) (by decide) a ik n
@[go_sem] theorem Tryz.iv225 (l:List V) (ik:IntKind) (n:Int):indexV Tryz.prog 225 (.agg l) (.int ik n)=if 0≤n∧n<(23:Nat) then partC true 3 l (n.toNat * 3) else none:=indexV_A (P:=Tryz.prog) (e:=224) (by kernel_rfl) (by kernel_rfl) (by kernel_rfl) (by decide) l ik n
@[go_sem] theorem Tryz.bla225 (l:List (Nat × V)):buildV Tryz.prog 225 l=(fillV (mulP 3) (.str [] :: .int .i64 0 :: .int .i64 0 :: .str [] :: .int .i64 0 :: .int .i64 0 :: .str [] :: .int .i64 0 :: .int .i64 0 :: .str [] :: .int .i64 0 :: .int .i64 0 :: .str [] :: .int .i64 0 :: .int .i64 0 :: .str [] :: .int .i64 0 :: .int .i64 0 :: .str [] :: .int .i64 0 :: .int .i64 0 :: .str [] :: .int .i64 0 :: .int .i64 0 :: .str [] :: .int .i64 0 :: .int .i64 0 :: .str [] :: .int .i64 0 :: .int .i64 0 :: .str [] :: .int .i64 0 :: .int .i64 0 :: .str [] :: .int .i64 0 :: .int .i64 0 :: .str [] :: .int .i64 0 :: .int .i64 0 :: .str [] :: .int .i64 0 :: .int .i64 0 :: .str [] :: .int .i64 0 :: .int .i64 0 :: .str [] :: .int .i64 0 :: .int .i64 0 :: .str [] :: .int .i64 0 :: .int .i64 0 :: .str [] :: .int .i64 0 :: .int .i64 0 :: .str [] :: .int .i64 0 :: .int .i64 0 :: .str [] :: .int .i64 0 :: .int .i64 0 :: .str [] :: .int .i64 0 :: .int .i64 0 :: .str [] :: .int .i64 0 :: .int .i64 0 :: .str [] :: .int .i64 0 :: .int .i64 0::[]) l).map .agg:=buildV_A (P:=Tryz.prog) (N:=23) (e:=224) (by kernel_rfl) (by kernel_rfl) (by kernel_rfl) l
theorem Tryz.elem268:elemOf Tryz.prog 268=some 2:=by kernel_rfl
@[go_sem] theorem Tryz.idx268 (a i:V):indexAddrV Tryz.prog 268 a i=idxK (some 2) a i:=indexAddrV_K Tryz.elem268 a i
@[go_sem] theorem Tryz.len268 (a:V):lenV Tryz.prog 268 a=lenK true a:=lenV_slice Tryz.elem268 a
@[go_sem] theorem Tryz.sl268 (a:V) (lo hi:Option V):sliceV Tryz.prog 268 a lo hi none=slK 2 a lo hi:=sliceV_K Tryz.elem268 a lo hi
@[go_sem] theorem Tryz.bs268 (n:Nat) (l:List (Nat × V)):bsCells Tryz.prog 268 n l=bsK 2 [.int .i64 0,.int .i64 0] n l:=bsCells_K (P:=Tryz.prog) (t:=268) (e:=271) (m:=2) (z:=[.int .i64 0,.int .i64 0]) (by kernel_rfl) (by kernel_rfl) (by kernel_rfl) rfl n l
theorem Tryz.app268:appOf Tryz.prog [268,268]=some (2,16):=by kernel_rfl
@[go_sem] theorem Tryz.appc268 (E:Ent) (ops:Array Oper) (Q:AS→Prop) (rest:List Oper) (e:Nat) (τ : Nat→V) (H:Heap) (a b:V):appC Tryz.prog E ops Q rest e τ H [268,268] a b=appE Tryz.prog E ops Q rest e τ H 2 16 a (srcCells H 2 b) (obS H a):=appC_E ops Tryz.app268 e a b
theorem Tryz.shape271:shapeOf Tryz.prog 271=some (true,2):=by kernel_rfl
@[go_sem] theorem Tryz.load271 (H:Heap) (a:V):readV Tryz.prog H 271 a=loadK (some (true,2)) (obOf H a) a:=readV_K Tryz.shape271 H a
@[go_sem] theorem Tryz.sz271:szOf Tryz.prog 271=some 2:=by kernel_rfl
@[go_sem] theorem Tryz.zero271:zeroC Tryz.prog 271=some [.int .i64 0,.int .i64 0]:=by kernel_rfl
@[go_sem] theorem Tryz.bld271 (l:List (Nat × V)):buildV Tryz.prog 271 l=(fillV (tblP [(0,1),(1,1)]) [.int .i64 0,.int .i64 0] l).map .agg:=buildV_K (P:=Tryz.prog) (t:=271) (tbl:=[(0,1),(1,1)]) (z:=[.int .i64 0,.int .i64 0]) (by kernel_rfl) (by kernel_rfl) l
theorem Tryz.fld271_0:fldOf Tryz.prog 271 0=some (0,false,1):=by kernel_rfl
@[go_sem] theorem Tryz.fa271_0 (a:V):fieldAddrV Tryz.prog 271 a 0=fldK (some (0,false,1)) a:=fieldAddrV_K Tryz.fld271_0 a
theorem Tryz.fld271_1:fldOf Tryz.prog 271 1=some (1,false,1):=by kernel_rfl
@[go_sem] theorem Tryz.fa271_1 (a:V):fieldAddrV Tryz.prog 271 a 1=fldK (some (1,false,1)) a:=fieldAddrV_K Tryz.fld271_1 a
theorem Tryz.elem273:elemOf Tryz.prog 273=some 1:=by kernel_rfl
@[go_sem] theorem Tryz.idx273 (a i:V):indexAddrV Tryz.prog 273 a i=idxK (some 1) a i:=indexAddrV_K Tryz.elem273 a i
@[go_sem] theorem Tryz.len273 (a:V):lenV Tryz.prog 273 a=lenK true a:=lenV_slice Tryz.elem273 a
@[go_sem] theorem Tryz.bs273 (n:Nat) (l:List (Nat × V)):bsCells Tryz.prog 273 n l=bsK 1 [.nils] n l:=bsCells_K (P:=Tryz.prog) (t:=273) (e:=36) (m:=1) (z:=[.nils]) (by kernel_rfl) (by kernel_rfl) (by kernel_rfl) rfl n l
theorem Tryz.shape279:shapeOf Tryz.prog 279=some (true,2):=by kernel_rfl
@[go_sem] theorem Tryz.load279 (H:Heap) (a:V):readV Tryz.prog H 279 a=loadK (some (true,2)) (obOf H a) a:=readV_K Tryz.shape279 H a
@[go_sem] theorem Tryz.sz279:szOf Tryz.prog 279=some 2:=by kernel_rfl
@[go_sem] theorem Tryz.zero279:zeroC Tryz.prog 279=some [.nils,.bool false]:=by kernel_rfl
@[go_sem] theorem Tryz.bld279 (l:List (Nat × V)):buildV Tryz.prog 279 l=(fillV (tblP [(0,1),(1,1)]) [.nils,.bool false] l).map .agg:=buildV_K (P:=Tryz.prog) (t:=279) (tbl:=[(0,1),(1,1)]) (z:=[.nils,.bool false]) (by kernel_rfl) (by kernel_rfl) l
theorem Tryz.fld279_0:fldOf Tryz.prog 279 0=some (0,false,1):=by kernel_rfl
@[go_sem] theorem Tryz.fa279_0 (a:V):fieldAddrV Tryz.prog 279 a 0=fldK (some (0,false,1)) a:=fieldAddrV_K Tryz.fld279_0 a
theorem Tryz.fld279_1:fldOf Tryz.prog 279 1=some (1,false,1):=by kernel_rfl
@[go_sem] theorem Tryz.fa279_1 (a:V):fieldAddrV Tryz.prog 279 a 1=fldK (some (1,false,1)) a:=fieldAddrV_K Tryz.fld279_1 a
theorem Tryz.shape288:shapeOf Tryz.prog 288=some (false,1):=by kernel_rfl
@[go_sem] theorem Tryz.load288 (H:Heap) (a:V):readV Tryz.prog H 288 a=loadK (some (false,1)) (obOf H a) a:=readV_K Tryz.shape288 H a
@[go_sem] theorem Tryz.bld290 (l:List (Nat × V)):buildV Tryz.prog 290 l=(fillV (tblP [(0,1),(1,1),(2,1),(3,1),(4,1)]) [.nils,.int .i64 0,.nils,.int .i64 0,.nilf] l).map .agg:=buildV_K (P:=Tryz.prog) (t:=290) (tbl:=[(0,1),(1,1),(2,1),(3,1),(4,1)]) (z:=[.nils,.int .i64 0,.nils,.int .i64 0,.nilf]) (by kernel_rfl) (by kernel_rfl) l
theorem Tryz.fld290_0:fldOf Tryz.prog 290 0=some (0,false,1):=by kernel_rfl
@[go_sem] theorem Tryz.fa290_0 (a:V):fieldAddrV Tryz.prog 290 a 0=fldK (some (0,false,1)) a:=fieldAddrV_K Tryz.fld290_0 a
theorem Tryz.fld290_1:fldOf Tryz.prog 290 1=some (1,false,1):=by kernel_rfl
@[go_sem] theorem Tryz.fa290_1 (a:V):fieldAddrV Tryz.prog 290 a 1=fldK (some (1,false,1)) a:=fieldAddrV_K Tryz.fld290_1 a
theorem Tryz.fld290_2:fldOf Tryz.prog 290 2=some (2,false,1):=by kernel_rfl
@[go_sem] theorem Tryz.fa290_2 (a:V):fieldAddrV Tryz.prog 290 a 2=fldK (some (2,false,1)) a:=fieldAddrV_K Tryz.fld290_2 a
theorem Tryz.fld290_3:fldOf Tryz.prog 290 3=some (3,false,1):=by kernel_rfl
@[go_sem] theorem Tryz.fa290_3 (a:V):fieldAddrV Tryz.prog 290 a 3=fldK (some (3,false,1)) a:=fieldAddrV_K Tryz.fld290_3 a
theorem Tryz.fld290_4:fldOf Tryz.prog 290 4=some (4,false,1):=by kernel_rfl
@[go_sem] theorem Tryz.fa290_4 (a:V):fieldAddrV Tryz.prog 290 a 4=fldK (some (4,false,1)) a:=fieldAddrV_K Tryz.fld290_4 a
theorem Tryz.elem314:elemOf Tryz.prog 314=some 3:=by kernel_rfl
@[go_sem] theorem Tryz.idx314 (a i:V):indexAddrV Tryz.prog 314 a i=idxK (some 3) a i:=indexAddrV_K Tryz.elem314 a i
@[go_sem] theorem Tryz.len314 (a:V):lenV Tryz.prog 314 a=lenK true a:=lenV_slice Tryz.elem314 a
@[go_sem] theorem Tryz.iv323 (l:List V) (ik:IntKind) (n:Int):indexV Tryz.prog 323 (.agg l) (.int ik n)=if 0≤n∧n<(3:Nat) then partC false 1 l (n.toNat * 1) else none:=indexV_A (P:=Tryz.prog) (e:=9) (by kernel_rfl) (by kernel_rfl) (by kernel_rfl) (by decide) l ik n
@[go_sem] theorem Tryz.bla323 (l:List (Nat × V)):buildV Tryz.prog 323 l=(fillV (mulP 1) [.str [],.str [],.str []] l).map .agg:=buildV_A (P:=Tryz.prog) (N:=3) (e:=9) (by kernel_rfl) (by kernel_rfl) (by kernel_rfl) l
@[go_sem] theorem Tryz.cv3_5 (k:IntKind) (n:Int):convV Tryz.prog 3 5 (.int k n)=some (.int .u8 (IntKind.wrap .u8 n)):=conv_int (P:=Tryz.prog) (s:=3) (d:=5) (by kernel_rfl) (by kernel_rfl) k n
end Go.Hs
end
