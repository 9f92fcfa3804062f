/- Part 19 of the proof of a statement of seat YtkljnnbncaolaaaDoor: HsFactsD. -/
import Derived.Test.YtkljnnbncaolaaaDoorProg
import Derived.Test.YtkljnnbncaolaaaDoorPart18
import Derived.KernelRfl
set_option linter.unusedSimpArgs false
set_option linter.unusedVariables false
section
/- Facts about the seat's types, for the library Hs: written by a program (genfacts.py). -/
namespace Go.Hs
open Go.Proofs
theorem Tryd.shape1 : shapeOf Tryd.prog 1 = some (false, 1) := by kernel_rfl
@[go_sem] theorem Tryd.load1 (H : Heap) (a : V) : readV Tryd.prog H 1 a = loadK (some (false, 1)) (obOf H a) a := readV_K Tryd.shape1 H a
@[go_sem] theorem Tryd.sz1 : szOf Tryd.prog 1 = some 1 := by kernel_rfl
@[go_sem] theorem Tryd.bytes1 : bytesV Tryd.prog 1 = some 8 := by kernel_rfl
@[go_sem] theorem Tryd.agg1 : isAggB Tryd.prog 1 = some false := by kernel_rfl
@[go_sem] theorem Tryd.zero1 : zeroC Tryd.prog 1 = some [.nilf] := by kernel_rfl
theorem Tryd.nk1 : nilKind Tryd.prog 1 = 3 := by kernel_rfl
@[go_sem] theorem Tryd.eqn1 (a : V) : binV Tryd.prog .eql 1 a .nilf = (nilK 3 a).map .bool := (binV_nil _ _ Tryd.nk1 (by simp) a).1
@[go_sem] theorem Tryd.nen1 (a : V) : binV Tryd.prog .neq 1 a .nilf = (nilK 3 a).map fun r => .bool (!r) := (binV_nil _ _ Tryd.nk1 (by simp) a).2
theorem Tryd.shape2 : shapeOf Tryd.prog 2 = some (false, 1) := by kernel_rfl
@[go_sem] theorem Tryd.load2 (H : Heap) (a : V) : readV Tryd.prog H 2 a = loadK (some (false, 1)) (obOf H a) a := readV_K Tryd.shape2 H a
@[go_sem] theorem Tryd.sz2 : szOf Tryd.prog 2 = some 1 := by kernel_rfl
@[go_sem] theorem Tryd.bytes2 : bytesV Tryd.prog 2 = some 8 := by kernel_rfl
@[go_sem] theorem Tryd.agg2 : isAggB Tryd.prog 2 = some false := by kernel_rfl
@[go_sem] theorem Tryd.zero2 : zeroC Tryd.prog 2 = some [.int .i64 0] := by kernel_rfl
theorem Tryd.shape3 : shapeOf Tryd.prog 3 = some (false, 1) := by kernel_rfl
@[go_sem] theorem Tryd.load3 (H : Heap) (a : V) : readV Tryd.prog H 3 a = loadK (some (false, 1)) (obOf H a) a := readV_K Tryd.shape3 H a
@[go_sem] theorem Tryd.sz3 : szOf Tryd.prog 3 = some 1 := by kernel_rfl
@[go_sem] theorem Tryd.bytes3 : bytesV Tryd.prog 3 = some 8 := by kernel_rfl
@[go_sem] theorem Tryd.agg3 : isAggB Tryd.prog 3 = some false := by kernel_rfl
@[go_sem] theorem Tryd.zero3 : zeroC Tryd.prog 3 = some [.int .i64 0] := by kernel_rfl
theorem Tryd.shape4 : shapeOf Tryd.prog 4 = some (false, 1) := by kernel_rfl
@[go_sem] theorem Tryd.load4 (H : Heap) (a : V) : readV Tryd.prog H 4 a = loadK (some (false, 1)) (obOf H a) a := readV_K Tryd.shape4 H a
@[go_sem] theorem Tryd.sz4 : szOf Tryd.prog 4 = some 1 := by kernel_rfl
@[go_sem] theorem Tryd.bytes4 : bytesV Tryd.prog 4 = some 1 := by kernel_rfl
@[go_sem] theorem Tryd.agg4 : isAggB Tryd.prog 4 = some false := by kernel_rfl
@[go_sem] theorem Tryd.zero4 : zeroC Tryd.prog 4 = some [.bool false] := by kernel_rfl
@[go_sem] theorem Tryd.eqb4 (a b : Bool) : binV Tryd.prog .eql 4 (.bool a) (.bool b) = some (.bool (a == b)) := (binV_bool (P := Tryd.prog) (by kernel_rfl) a b).1
@[go_sem] theorem Tryd.neb4 (a b : Bool) : binV Tryd.prog .neq 4 (.bool a) (.bool b) = some (.bool (a != b)) := (binV_bool (P := Tryd.prog) (by kernel_rfl) a b).2
theorem Tryd.shape5 : shapeOf Tryd.prog 5 = some (false, 1) := by kernel_rfl
@[go_sem] theorem Tryd.load5 (H : Heap) (a : V) : readV Tryd.prog H 5 a = loadK (some (false, 1)) (obOf H a) a := readV_K Tryd.shape5 H a
@[go_sem] theorem Tryd.sz5 : szOf Tryd.prog 5 = some 1 := by kernel_rfl
@[go_sem] theorem Tryd.bytes5 : bytesV Tryd.prog 5 = some 1 := by kernel_rfl
@[go_sem] theorem Tryd.agg5 : isAggB Tryd.prog 5 = some false := by kernel_rfl
@[go_sem] theorem Tryd.zero5 : zeroC Tryd.prog 5 = some [.int .u8 0] := by kernel_rfl
theorem Tryd.shape6 : shapeOf Tryd.prog 6 = some (false, 1) := by kernel_rfl
@[go_sem] theorem Tryd.load6 (H : Heap) (a : V) : readV Tryd.prog H 6 a = loadK (some (false, 1)) (obOf H a) a := readV_K Tryd.shape6 H a
@[go_sem] theorem Tryd.sz6 : szOf Tryd.prog 6 = some 1 := by kernel_rfl
@[go_sem] theorem Tryd.bytes6 : bytesV Tryd.prog 6 = some 1 := by kernel_rfl
@[go_sem] theorem Tryd.agg6 : isAggB Tryd.prog 6 = some false := by kernel_rfl
@[go_sem] theorem Tryd.zero6 : zeroC Tryd.prog 6 = some [.int .u8 0] := by kernel_rfl
theorem Tryd.shape7 : shapeOf Tryd.prog 7 = some (true, 4) := by kernel_rfl
@[go_sem] theorem Tryd.load7 (H : Heap) (a : V) : readV Tryd.prog H 7 a = loadK (some (true, 4)) (obOf H a) a := readV_K Tryd.shape7 H a
@[go_sem] theorem Tryd.sz7 : szOf Tryd.prog 7 = some 4 := by kernel_rfl
@[go_sem] theorem Tryd.bytes7 : bytesV Tryd.prog 7 = some 24 := by kernel_rfl
@[go_sem] theorem Tryd.agg7 : isAggB Tryd.prog 7 = some true := by kernel_rfl
@[go_sem] theorem Tryd.zero7 : zeroC Tryd.prog 7 = some [.int .i64 0, .int .i64 0, .bool false, .int .u8 0] := by kernel_rfl
theorem Tryd.zeroV7 : zeroV Tryd.prog 7 = some (.agg [.int .i64 0, .int .i64 0, .bool false, .int .u8 0]) := by kernel_rfl
@[go_sem] theorem Tryd.bld7 (l : List (Nat × V)) : buildV Tryd.prog 7 l = (fillV (tblP [(0, 1), (1, 1), (2, 1), (3, 1)]) [.int .i64 0, .int .i64 0, .bool false, .int .u8 0] l).map .agg := buildV_K (P := Tryd.prog) (t := 7) (tbl := [(0, 1), (1, 1), (2, 1), (3, 1)]) (z := [.int .i64 0, .int .i64 0, .bool false, .int .u8 0]) (by kernel_rfl) (by kernel_rfl) l
theorem Tryd.fld7_0 : fldOf Tryd.prog 7 0 = some (0, false, 1) := by kernel_rfl
@[go_sem] theorem Tryd.fa7_0 (a : V) : fieldAddrV Tryd.prog 7 a 0 = fldK (some (0, false, 1)) a := fieldAddrV_K Tryd.fld7_0 a
@[go_sem] theorem Tryd.fv7_0 (l : List V) : fieldV Tryd.prog 7 (.agg l) 0 = partC false 1 l 0 := fieldV_K Tryd.fld7_0 l
theorem Tryd.fld7_1 : fldOf Tryd.prog 7 1 = some (1, false, 1) := by kernel_rfl
@[go_sem] theorem Tryd.fa7_1 (a : V) : fieldAddrV Tryd.prog 7 a 1 = fldK (some (1, false, 1)) a := fieldAddrV_K Tryd.fld7_1 a
@[go_sem] theorem Tryd.fv7_1 (l : List V) : fieldV Tryd.prog 7 (.agg l) 1 = partC false 1 l 1 := fieldV_K Tryd.fld7_1 l
theorem Tryd.fld7_2 : fldOf Tryd.prog 7 2 = some (2, false, 1) := by kernel_rfl
@[go_sem] theorem Tryd.fa7_2 (a : V) : fieldAddrV Tryd.prog 7 a 2 = fldK (some (2, false, 1)) a := fieldAddrV_K Tryd.fld7_2 a
@[go_sem] theorem Tryd.fv7_2 (l : List V) : fieldV Tryd.prog 7 (.agg l) 2 = partC false 1 l 2 := fieldV_K Tryd.fld7_2 l
theorem Tryd.fld7_3 : fldOf Tryd.prog 7 3 = some (3, false, 1) := by kernel_rfl
@[go_sem] theorem Tryd.fa7_3 (a : V) : fieldAddrV Tryd.prog 7 a 3 = fldK (some (3, false, 1)) a := fieldAddrV_K Tryd.fld7_3 a
@[go_sem] theorem Tryd.fv7_3 (l : List V) : fieldV Tryd.prog 7 (.agg l) 3 = partC false 1 l 3 := fieldV_K Tryd.fld7_3 l
theorem Tryd.shape8 : shapeOf Tryd.prog 8 = some (true, 4) := by kernel_rfl
@[go_sem] theorem Tryd.load8 (H : Heap) (a : V) : readV Tryd.prog H 8 a = loadK (some (true, 4)) (obOf H a) a := readV_K Tryd.shape8 H a
@[go_sem] theorem Tryd.sz8 : szOf Tryd.prog 8 = some 4 := by kernel_rfl
@[go_sem] theorem Tryd.bytes8 : bytesV Tryd.prog 8 = some 24 := by kernel_rfl
@[go_sem] theorem Tryd.agg8 : isAggB Tryd.prog 8 = some true := by kernel_rfl
@[go_sem] theorem Tryd.zero8 : zeroC Tryd.prog 8 = some [.int .i64 0, .int .i64 0, .bool false, .int .u8 0] := by kernel_rfl
theorem Tryd.zeroV8 : zeroV Tryd.prog 8 = some (.agg [.int .i64 0, .int .i64 0, .bool false, .int .u8 0]) := by kernel_rfl
@[go_sem] theorem Tryd.bld8 (l : List (Nat × V)) : buildV Tryd.prog 8 l = (fillV (tblP [(0, 1), (1, 1), (2, 1), (3, 1)]) [.int .i64 0, .int .i64 0, .bool false, .int .u8 0] l).map .agg := buildV_K (P := Tryd.prog) (t := 8) (tbl := [(0, 1), (1, 1), (2, 1), (3, 1)]) (z := [.int .i64 0, .int .i64 0, .bool false, .int .u8 0]) (by kernel_rfl) (by kernel_rfl) l
theorem Tryd.fld8_0 : fldOf Tryd.prog 8 0 = some (0, false, 1) := by kernel_rfl
@[go_sem] theorem Tryd.fa8_0 (a : V) : fieldAddrV Tryd.prog 8 a 0 = fldK (some (0, false, 1)) a := fieldAddrV_K Tryd.fld8_0 a
@[go_sem] theorem Tryd.fv8_0 (l : List V) : fieldV Tryd.prog 8 (.agg l) 0 = partC false 1 l 0 := fieldV_K Tryd.fld8_0 l
theorem Tryd.fld8_1 : fldOf Tryd.prog 8 1 = some (1, false, 1) := by kernel_rfl
@[go_sem] theorem Tryd.fa8_1 (a : V) : fieldAddrV Tryd.prog 8 a 1 = fldK (some (1, false, 1)) a := fieldAddrV_K Tryd.fld8_1 a
@[go_sem] theorem Tryd.fv8_1 (l : List V) : fieldV Tryd.prog 8 (.agg l) 1 = partC false 1 l 1 := fieldV_K Tryd.fld8_1 l
theorem Tryd.fld8_2 : fldOf Tryd.prog 8 2 = some (2, false, 1) := by kernel_rfl
@[go_sem] theorem Tryd.fa8_2 (a : V) : fieldAddrV Tryd.prog 8 a 2 = fldK (some (2, false, 1)) a := fieldAddrV_K Tryd.fld8_2 a
@[go_sem] theorem Tryd.fv8_2 (l : List V) : fieldV Tryd.prog 8 (.agg l) 2 = partC false 1 l 2 := fieldV_K Tryd.fld8_2 l
theorem Tryd.fld8_3 : fldOf Tryd.prog 8 3 = some (3, false, 1) := by kernel_rfl
@[go_sem] theorem Tryd.fa8_3 (a : V) : fieldAddrV Tryd.prog 8 a 3 = fldK (some (3, false, 1)) a := fieldAddrV_K Tryd.fld8_3 a
@[go_sem] theorem Tryd.fv8_3 (l : List V) : fieldV Tryd.prog 8 (.agg l) 3 = partC false 1 l 3 := fieldV_K Tryd.fld8_3 l
theorem Tryd.shape9 : shapeOf Tryd.prog 9 = some (false, 1) := by kernel_rfl
@[go_sem] theorem Tryd.load9 (H : Heap) (a : V) : readV Tryd.prog H 9 a = loadK (some (false, 1)) (obOf H a) a := readV_K Tryd.shape9 H a
@[go_sem] theorem Tryd.sz9 : szOf Tryd.prog 9 = some 1 := by kernel_rfl
@[go_sem] theorem Tryd.bytes9 : bytesV Tryd.prog 9 = some 16 := by kernel_rfl
@[go_sem] theorem Tryd.agg9 : isAggB Tryd.prog 9 = some false := by kernel_rfl
@[go_sem] theorem Tryd.zero9 : zeroC Tryd.prog 9 = some [.str []] := by kernel_rfl
theorem Tryd.str9 : isStr Tryd.prog 9 = true := by kernel_rfl
@[go_sem] theorem Tryd.len9 (a : V) : lenV Tryd.prog 9 a = lenK false a := lenV_str Tryd.str9 a
@[go_sem] theorem Tryd.ixs9 (s : List UInt8) (k : IntKind) (n : Int) : indexV Tryd.prog 9 (.str s) (.int k n) = if 0 ≤ n then (s[n.toNat]?).map fun b => .int .u8 b.toNat else none := indexV_str Tryd.str9 s k n
@[go_sem] theorem Tryd.sls9 (s : List UInt8) (lo hi : Option V) : sliceV Tryd.prog 9 (.str s) lo hi none = slJ (boundV 0 lo) (boundV s.length hi) fun i j => if i ≤ j ∧ j ≤ s.length then some (.str ((s.drop i).take (j - i))) else none := sliceV_str Tryd.str9 s lo hi
theorem Tryd.shape10 : shapeOf Tryd.prog 10 = some (false, 1) := by kernel_rfl
@[go_sem] theorem Tryd.load10 (H : Heap) (a : V) : readV Tryd.prog H 10 a = loadK (some (false, 1)) (obOf H a) a := readV_K Tryd.shape10 H a
@[go_sem] theorem Tryd.sz10 : szOf Tryd.prog 10 = some 1 := by kernel_rfl
@[go_sem] theorem Tryd.bytes10 : bytesV Tryd.prog 10 = some 16 := by kernel_rfl
@[go_sem] theorem Tryd.agg10 : isAggB Tryd.prog 10 = some false := by kernel_rfl
@[go_sem] theorem Tryd.zero10 : zeroC Tryd.prog 10 = some [.str []] := by kernel_rfl
theorem Tryd.str10 : isStr Tryd.prog 10 = true := by kernel_rfl
@[go_sem] theorem Tryd.len10 (a : V) : lenV Tryd.prog 10 a = lenK false a := lenV_str Tryd.str10 a
@[go_sem] theorem Tryd.ixs10 (s : List UInt8) (k : IntKind) (n : Int) : indexV Tryd.prog 10 (.str s) (.int k n) = if 0 ≤ n then (s[n.toNat]?).map fun b => .int .u8 b.toNat else none := indexV_str Tryd.str10 s k n
@[go_sem] theorem Tryd.sls10 (s : List UInt8) (lo hi : Option V) : sliceV Tryd.prog 10 (.str s) lo hi none = slJ (boundV 0 lo) (boundV s.length hi) fun i j => if i ≤ j ∧ j ≤ s.length then some (.str ((s.drop i).take (j - i))) else none := sliceV_str Tryd.str10 s lo hi
theorem Tryd.shape11 : shapeOf Tryd.prog 11 = some (false, 1) := by kernel_rfl
@[go_sem] theorem Tryd.load11 (H : Heap) (a : V) : readV Tryd.prog H 11 a = loadK (some (false, 1)) (obOf H a) a := readV_K Tryd.shape11 H a
@[go_sem] theorem Tryd.sz11 : szOf Tryd.prog 11 = some 1 := by kernel_rfl
@[go_sem] theorem Tryd.bytes11 : bytesV Tryd.prog 11 = some 16 := by kernel_rfl
@[go_sem] theorem Tryd.agg11 : isAggB Tryd.prog 11 = some false := by kernel_rfl
@[go_sem] theorem Tryd.zero11 : zeroC Tryd.prog 11 = some [.str []] := by kernel_rfl
theorem Tryd.str11 : isStr Tryd.prog 11 = true := by kernel_rfl
@[go_sem] theorem Tryd.len11 (a : V) : lenV Tryd.prog 11 a = lenK false a := lenV_str Tryd.str11 a
@[go_sem] theorem Tryd.ixs11 (s : List UInt8) (k : IntKind) (n : Int) : indexV Tryd.prog 11 (.str s) (.int k n) = if 0 ≤ n then (s[n.toNat]?).map fun b => .int .u8 b.toNat else none := indexV_str Tryd.str11 s k n
@[go_sem] theorem Tryd.sls11 (s : List UInt8) (lo hi : Option V) : sliceV Tryd.prog 11 (.str s) lo hi none = slJ (boundV 0 lo) (boundV s.length hi) fun i j => if i ≤ j ∧ j ≤ s.length then some (.str ((s.drop i).take (j - i))) else none := sliceV_str Tryd.str11 s lo hi
theorem Tryd.shape12 : shapeOf Tryd.prog 12 = some (false, 1) := by kernel_rfl
@[go_sem] theorem Tryd.load12 (H : Heap) (a : V) : readV Tryd.prog H 12 a = loadK (some (false, 1)) (obOf H a) a := readV_K Tryd.shape12 H a
@[go_sem] theorem Tryd.sz12 : szOf Tryd.prog 12 = some 1 := by kernel_rfl
@[go_sem] theorem Tryd.bytes12 : bytesV Tryd.prog 12 = some 8 := by kernel_rfl
@[go_sem] theorem Tryd.agg12 : isAggB Tryd.prog 12 = some false := by kernel_rfl
@[go_sem] theorem Tryd.zero12 : zeroC Tryd.prog 12 = some [.int .u64 0] := by kernel_rfl
theorem Tryd.shape13 : shapeOf Tryd.prog 13 = some (true, 2) := by kernel_rfl
@[go_sem] theorem Tryd.load13 (H : Heap) (a : V) : readV Tryd.prog H 13 a = loadK (some (true, 2)) (obOf H a) a := readV_K Tryd.shape13 H a
@[go_sem] theorem Tryd.sz13 : szOf Tryd.prog 13 = some 2 := by kernel_rfl
@[go_sem] theorem Tryd.bytes13 : bytesV Tryd.prog 13 = some 24 := by kernel_rfl
@[go_sem] theorem Tryd.agg13 : isAggB Tryd.prog 13 = some true := by kernel_rfl
@[go_sem] theorem Tryd.zero13 : zeroC Tryd.prog 13 = some [.str [], .int .u64 0] := by kernel_rfl
theorem Tryd.zeroV13 : zeroV Tryd.prog 13 = some (.agg [.str [], .int .u64 0]) := by kernel_rfl
@[go_sem] theorem Tryd.bld13 (l : List (Nat × V)) : buildV Tryd.prog 13 l = (fillV (tblP [(0, 1), (1, 1)]) [.str [], .int .u64 0] l).map .agg := buildV_K (P := Tryd.prog) (t := 13) (tbl := [(0, 1), (1, 1)]) (z := [.str [], .int .u64 0]) (by kernel_rfl) (by kernel_rfl) l
theorem Tryd.fld13_0 : fldOf Tryd.prog 13 0 = some (0, false, 1) := by kernel_rfl
@[go_sem] theorem Tryd.fa13_0 (a : V) : fieldAddrV Tryd.prog 13 a 0 = fldK (some (0, false, 1)) a := fieldAddrV_K Tryd.fld13_0 a
@[go_sem] theorem Tryd.fv13_0 (l : List V) : fieldV Tryd.prog 13 (.agg l) 0 = partC false 1 l 0 := fieldV_K Tryd.fld13_0 l
theorem Tryd.fld13_1 : fldOf Tryd.prog 13 1 = some (1, false, 1) := by kernel_rfl
@[go_sem] theorem Tryd.fa13_1 (a : V) : fieldAddrV Tryd.prog 13 a 1 = fldK (some (1, false, 1)) a := fieldAddrV_K Tryd.fld13_1 a
@[go_sem] theorem Tryd.fv13_1 (l : List V) : fieldV Tryd.prog 13 (.agg l) 1 = partC false 1 l 1 := fieldV_K Tryd.fld13_1 l
theorem Tryd.shape14 : shapeOf Tryd.prog 14 = some (true, 2) := by kernel_rfl
@[go_sem] theorem Tryd.load14 (H : Heap) (a : V) : readV Tryd.prog H 14 a = loadK (some (true, 2)) (obOf H a) a := readV_K Tryd.shape14 H a
@[go_sem] theorem Tryd.sz14 : szOf Tryd.prog 14 = some 2 := by kernel_rfl
@[go_sem] theorem Tryd.bytes14 : bytesV Tryd.prog 14 = some 24 := by kernel_rfl
@[go_sem] theorem Tryd.agg14 : isAggB Tryd.prog 14 = some true := by kernel_rfl
@[go_sem] theorem Tryd.zero14 : zeroC Tryd.prog 14 = some [.str [], .int .u64 0] := by kernel_rfl
theorem Tryd.zeroV14 : zeroV Tryd.prog 14 = some (.agg [.str [], .int .u64 0]) := by kernel_rfl
@[go_sem] theorem Tryd.bld14 (l : List (Nat × V)) : buildV Tryd.prog 14 l = (fillV (tblP [(0, 1), (1, 1)]) [.str [], .int .u64 0] l).map .agg := buildV_K (P := Tryd.prog) (t := 14) (tbl := [(0, 1), (1, 1)]) (z := [.str [], .int .u64 0]) (by kernel_rfl) (by kernel_rfl) l
theorem Tryd.fld14_0 : fldOf Tryd.prog 14 0 = some (0, false, 1) := by kernel_rfl
@[go_sem] theorem Tryd.fa14_0 (a : V) : fieldAddrV Tryd.prog 14 a 0 = fldK (some (0, false, 1)) a := fieldAddrV_K Tryd.fld14_0 a
@[go_sem] theorem Tryd.fv14_0 (l : List V) : fieldV Tryd.prog 14 (.agg l) 0 = partC false 1 l 0 := fieldV_K Tryd.fld14_0 l
theorem Tryd.fld14_1 : fldOf Tryd.prog 14 1 = some (1, false, 1) := by kernel_rfl
@[go_sem] theorem Tryd.fa14_1 (a : V) : fieldAddrV Tryd.prog 14 a 1 = fldK (some (1, false, 1)) a := fieldAddrV_K Tryd.fld14_1 a
@[go_sem] theorem Tryd.fv14_1 (l : List V) : fieldV Tryd.prog 14 (.agg l) 1 = partC false 1 l 1 := fieldV_K Tryd.fld14_1 l
theorem Tryd.shape15 : shapeOf Tryd.prog 15 = some (false, 1) := by kernel_rfl
@[go_sem] theorem Tryd.load15 (H : Heap) (a : V) : readV Tryd.prog H 15 a = loadK (some (false, 1)) (obOf H a) a := readV_K Tryd.shape15 H a
@[go_sem] theorem Tryd.sz15 : szOf Tryd.prog 15 = some 1 := by kernel_rfl
@[go_sem] theorem Tryd.bytes15 : bytesV Tryd.prog 15 = some 8 := by kernel_rfl
@[go_sem] theorem Tryd.agg15 : isAggB Tryd.prog 15 = some false := by kernel_rfl
@[go_sem] theorem Tryd.zero15 : zeroC Tryd.prog 15 = some [.nilp] := by kernel_rfl
theorem Tryd.nk15 : nilKind Tryd.prog 15 = 1 := by kernel_rfl
@[go_sem] theorem Tryd.eqn15 (a : V) : binV Tryd.prog .eql 15 a .nilp = (nilK 1 a).map .bool := (binV_nil _ _ Tryd.nk15 (by simp) a).1
@[go_sem] theorem Tryd.nen15 (a : V) : binV Tryd.prog .neq 15 a .nilp = (nilK 1 a).map fun r => .bool (!r) := (binV_nil _ _ Tryd.nk15 (by simp) a).2
theorem Tryd.shape16 : shapeOf Tryd.prog 16 = some (false, 1) := by kernel_rfl
@[go_sem] theorem Tryd.load16 (H : Heap) (a : V) : readV Tryd.prog H 16 a = loadK (some (false, 1)) (obOf H a) a := readV_K Tryd.shape16 H a
@[go_sem] theorem Tryd.sz16 : szOf Tryd.prog 16 = some 1 := by kernel_rfl
@[go_sem] theorem Tryd.bytes16 : bytesV Tryd.prog 16 = some 8 := by kernel_rfl
@[go_sem] theorem Tryd.agg16 : isAggB Tryd.prog 16 = some false := by kernel_rfl
@[go_sem] theorem Tryd.zero16 : zeroC Tryd.prog 16 = some [.nilp] := by kernel_rfl
theorem Tryd.nk16 : nilKind Tryd.prog 16 = 1 := by kernel_rfl
@[go_sem] theorem Tryd.eqn16 (a : V) : binV Tryd.prog .eql 16 a .nilp = (nilK 1 a).map .bool := (binV_nil _ _ Tryd.nk16 (by simp) a).1
@[go_sem] theorem Tryd.nen16 (a : V) : binV Tryd.prog .neq 16 a .nilp = (nilK 1 a).map fun r => .bool (!r) := (binV_nil _ _ Tryd.nk16 (by simp) a).2
theorem Tryd.shape17 : shapeOf Tryd.prog 17 = some (false, 1) := by kernel_rfl
@[go_sem] theorem Tryd.load17 (H : Heap) (a : V) : readV Tryd.prog H 17 a = loadK (some (false, 1)) (obOf H a) a := readV_K Tryd.shape17 H a
@[go_sem] theorem Tryd.sz17 : szOf Tryd.prog 17 = some 1 := by kernel_rfl
@[go_sem] theorem Tryd.bytes17 : bytesV Tryd.prog 17 = some 8 := by kernel_rfl
@[go_sem] theorem Tryd.agg17 : isAggB Tryd.prog 17 = some false := by kernel_rfl
@[go_sem] theorem Tryd.zero17 : zeroC Tryd.prog 17 = some [.nilp] := by kernel_rfl
theorem Tryd.nk17 : nilKind Tryd.prog 17 = 1 := by kernel_rfl
@[go_sem] theorem Tryd.eqn17 (a : V) : binV Tryd.prog .eql 17 a .nilp = (nilK 1 a).map .bool := (binV_nil _ _ Tryd.nk17 (by simp) a).1
@[go_sem] theorem Tryd.nen17 (a : V) : binV Tryd.prog .neq 17 a .nilp = (nilK 1 a).map fun r => .bool (!r) := (binV_nil _ _ Tryd.nk17 (by simp) a).2
theorem Tryd.shape18 : shapeOf Tryd.prog 18 = some (true, 1) := by kernel_rfl
@[go_sem] theorem Tryd.load18 (H : Heap) (a : V) : readV Tryd.prog H 18 a = loadK (some (true, 1)) (obOf H a) a := readV_K Tryd.shape18 H a
@[go_sem] theorem Tryd.sz18 : szOf Tryd.prog 18 = some 1 := by kernel_rfl
@[go_sem] theorem Tryd.bytes18 : bytesV Tryd.prog 18 = some 8 := by kernel_rfl
@[go_sem] theorem Tryd.agg18 : isAggB Tryd.prog 18 = some true := by kernel_rfl
@[go_sem] theorem Tryd.zero18 : zeroC Tryd.prog 18 = some [.nilp] := by kernel_rfl
theorem Tryd.zeroV18 : zeroV Tryd.prog 18 = some (.agg [.nilp]) := by kernel_rfl
@[go_sem] theorem Tryd.bld18 (l : List (Nat × V)) : buildV Tryd.prog 18 l = (fillV (tblP [(0, 1)]) [.nilp] l).map .agg := buildV_K (P := Tryd.prog) (t := 18) (tbl := [(0, 1)]) (z := [.nilp]) (by kernel_rfl) (by kernel_rfl) l
theorem Tryd.fld18_0 : fldOf Tryd.prog 18 0 = some (0, false, 1) := by kernel_rfl
@[go_sem] theorem Tryd.fa18_0 (a : V) : fieldAddrV Tryd.prog 18 a 0 = fldK (some (0, false, 1)) a := fieldAddrV_K Tryd.fld18_0 a
@[go_sem] theorem Tryd.fv18_0 (l : List V) : fieldV Tryd.prog 18 (.agg l) 0 = partC false 1 l 0 := fieldV_K Tryd.fld18_0 l
theorem Tryd.shape19 : shapeOf Tryd.prog 19 = some (true, 1) := by kernel_rfl
@[go_sem] theorem Tryd.load19 (H : Heap) (a : V) : readV Tryd.prog H 19 a = loadK (some (true, 1)) (obOf H a) a := readV_K Tryd.shape19 H a
@[go_sem] theorem Tryd.sz19 : szOf Tryd.prog 19 = some 1 := by kernel_rfl
@[go_sem] theorem Tryd.bytes19 : bytesV Tryd.prog 19 = some 8 := by kernel_rfl
@[go_sem] theorem Tryd.agg19 : isAggB Tryd.prog 19 = some true := by kernel_rfl
@[go_sem] theorem Tryd.zero19 : zeroC Tryd.prog 19 = some [.nilp] := by kernel_rfl
theorem Tryd.zeroV19 : zeroV Tryd.prog 19 = some (.agg [.nilp]) := by kernel_rfl
@[go_sem] theorem Tryd.bld19 (l : List (Nat × V)) : buildV Tryd.prog 19 l = (fillV (tblP [(0, 1)]) [.nilp] l).map .agg := buildV_K (P := Tryd.prog) (t := 19) (tbl := [(0, 1)]) (z := [.nilp]) (by kernel_rfl) (by kernel_rfl) l
theorem Tryd.fld19_0 : fldOf Tryd.prog 19 0 = some (0, false, 1) := by kernel_rfl
@[go_sem] theorem Tryd.fa19_0 (a : V) : fieldAddrV Tryd.prog 19 a 0 = fldK (some (0, false, 1)) a := fieldAddrV_K Tryd.fld19_0 a
@[go_sem] theorem Tryd.fv19_0 (l : List V) : fieldV Tryd.prog 19 (.agg l) 0 = partC false 1 l 0 := fieldV_K Tryd.fld19_0 l
theorem Tryd.shape20 : shapeOf Tryd.prog 20 = some (false, 1) := by kernel_rfl
@[go_sem] theorem Tryd.load20 (H : Heap) (a : V) : readV Tryd.prog H 20 a = loadK (some (false, 1)) (obOf H a) a := readV_K Tryd.shape20 H a
@[go_sem] theorem Tryd.sz20 : szOf Tryd.prog 20 = some 1 := by kernel_rfl
@[go_sem] theorem Tryd.bytes20 : bytesV Tryd.prog 20 = some 16 := by kernel_rfl
@[go_sem] theorem Tryd.agg20 : isAggB Tryd.prog 20 = some false := by kernel_rfl
@[go_sem] theorem Tryd.zero20 : zeroC Tryd.prog 20 = some [.nili] := by kernel_rfl
theorem Tryd.nk20 : nilKind Tryd.prog 20 = 4 := by kernel_rfl
@[go_sem] theorem Tryd.eqn20 (a : V) : binV Tryd.prog .eql 20 a .nili = (nilK 4 a).map .bool := (binV_nil _ _ Tryd.nk20 (by simp) a).1
@[go_sem] theorem Tryd.nen20 (a : V) : binV Tryd.prog .neq 20 a .nili = (nilK 4 a).map fun r => .bool (!r) := (binV_nil _ _ Tryd.nk20 (by simp) a).2
theorem Tryd.shape21 : shapeOf Tryd.prog 21 = some (false, 1) := by kernel_rfl
@[go_sem] theorem Tryd.load21 (H : Heap) (a : V) : readV Tryd.prog H 21 a = loadK (some (false, 1)) (obOf H a) a := readV_K Tryd.shape21 H a
@[go_sem] theorem Tryd.sz21 : szOf Tryd.prog 21 = some 1 := by kernel_rfl
@[go_sem] theorem Tryd.bytes21 : bytesV Tryd.prog 21 = some 4 := by kernel_rfl
@[go_sem] theorem Tryd.agg21 : isAggB Tryd.prog 21 = some false := by kernel_rfl
@[go_sem] theorem Tryd.zero21 : zeroC Tryd.prog 21 = some [.int .i32 0] := by kernel_rfl
theorem Tryd.shape22 : shapeOf Tryd.prog 22 = some (false, 1) := by kernel_rfl
@[go_sem] theorem Tryd.load22 (H : Heap) (a : V) : readV Tryd.prog H 22 a = loadK (some (false, 1)) (obOf H a) a := readV_K Tryd.shape22 H a
@[go_sem] theorem Tryd.sz22 : szOf Tryd.prog 22 = some 1 := by kernel_rfl
@[go_sem] theorem Tryd.bytes22 : bytesV Tryd.prog 22 = some 24 := by kernel_rfl
@[go_sem] theorem Tryd.agg22 : isAggB Tryd.prog 22 = some false := by kernel_rfl
@[go_sem] theorem Tryd.zero22 : zeroC Tryd.prog 22 = some [.nils] := by kernel_rfl
theorem Tryd.nk22 : nilKind Tryd.prog 22 = 2 := by kernel_rfl
@[go_sem] theorem Tryd.eqn22 (a : V) : binV Tryd.prog .eql 22 a .nils = (nilK 2 a).map .bool := (binV_nil _ _ Tryd.nk22 (by simp) a).1
@[go_sem] theorem Tryd.nen22 (a : V) : binV Tryd.prog .neq 22 a .nils = (nilK 2 a).map fun r => .bool (!r) := (binV_nil _ _ Tryd.nk22 (by simp) a).2
theorem Tryd.elem22 : elemOf Tryd.prog 22 = some 1 := by kernel_rfl
@[go_sem] theorem Tryd.idx22 (a i : V) : indexAddrV Tryd.prog 22 a i = idxK (some 1) a i := indexAddrV_K Tryd.elem22 a i
@[go_sem] theorem Tryd.len22 (a : V) : lenV Tryd.prog 22 a = lenK true a := lenV_slice Tryd.elem22 a
@[go_sem] theorem Tryd.sl22 (a : V) (lo hi : Option V) : sliceV Tryd.prog 22 a lo hi none = slK 1 a lo hi := sliceV_K Tryd.elem22 a lo hi
@[go_sem] theorem Tryd.bs22 (n : Nat) (l : List (Nat × V)) : bsCells Tryd.prog 22 n l = bsK 1 [.int .i64 0] n l := bsCells_K (P := Tryd.prog) (t := 22) (e := 2) (m := 1) (z := [.int .i64 0]) (by kernel_rfl) (by kernel_rfl) (by kernel_rfl) rfl n l
@[go_sem] theorem Tryd.ms22 (a b : V) : msCells Tryd.prog 22 a b = msK 1 8 [.int .i64 0] a b := msCells_K (P := Tryd.prog) (t := 22) (e := 2) (E := 1) (bytes := 8) (z := [.int .i64 0]) (by kernel_rfl) (by kernel_rfl) (by kernel_rfl) (by kernel_rfl) rfl a b
theorem Tryd.app22 : appOf Tryd.prog [22, 22] = some (1, 8) := by kernel_rfl
@[go_sem] theorem Tryd.appc22 (E : Ent) (ops : Array Oper) (Q : AS → Prop) (rest : List Oper) (e : Nat) (τ : Nat → V) (H : Heap) (a b : V) : appC Tryd.prog E ops Q rest e τ H [22, 22] a b = appE Tryd.prog E ops Q rest e τ H 1 8 a (srcCells H 1 b) (obS H a) := appC_E ops Tryd.app22 e a b
theorem Tryd.shape23 : shapeOf Tryd.prog 23 = some (false, 1) := by kernel_rfl
@[go_sem] theorem Tryd.load23 (H : Heap) (a : V) : readV Tryd.prog H 23 a = loadK (some (false, 1)) (obOf H a) a := readV_K Tryd.shape23 H a
@[go_sem] theorem Tryd.sz23 : szOf Tryd.prog 23 = some 1 := by kernel_rfl
@[go_sem] theorem Tryd.bytes23 : bytesV Tryd.prog 23 = some 8 := by kernel_rfl
@[go_sem] theorem Tryd.agg23 : isAggB Tryd.prog 23 = some false := by kernel_rfl
@[go_sem] theorem Tryd.zero23 : zeroC Tryd.prog 23 = some [.nilf] := by kernel_rfl
theorem Tryd.nk23 : nilKind Tryd.prog 23 = 3 := by kernel_rfl
@[go_sem] theorem Tryd.eqn23 (a : V) : binV Tryd.prog .eql 23 a .nilf = (nilK 3 a).map .bool := (binV_nil _ _ Tryd.nk23 (by simp) a).1
@[go_sem] theorem Tryd.nen23 (a : V) : binV Tryd.prog .neq 23 a .nilf = (nilK 3 a).map fun r => .bool (!r) := (binV_nil _ _ Tryd.nk23 (by simp) a).2
theorem Tryd.shape24 : shapeOf Tryd.prog 24 = some (false, 1) := by kernel_rfl
@[go_sem] theorem Tryd.load24 (H : Heap) (a : V) : readV Tryd.prog H 24 a = loadK (some (false, 1)) (obOf H a) a := readV_K Tryd.shape24 H a
@[go_sem] theorem Tryd.sz24 : szOf Tryd.prog 24 = some 1 := by kernel_rfl
@[go_sem] theorem Tryd.bytes24 : bytesV Tryd.prog 24 = some 8 := by kernel_rfl
@[go_sem] theorem Tryd.agg24 : isAggB Tryd.prog 24 = some false := by kernel_rfl
@[go_sem] theorem Tryd.zero24 : zeroC Tryd.prog 24 = some [.int .i64 0] := by kernel_rfl
theorem Tryd.shape26 : shapeOf Tryd.prog 26 = some (false, 1) := by kernel_rfl
@[go_sem] theorem Tryd.load26 (H : Heap) (a : V) : readV Tryd.prog H 26 a = loadK (some (false, 1)) (obOf H a) a := readV_K Tryd.shape26 H a
@[go_sem] theorem Tryd.sz26 : szOf Tryd.prog 26 = some 1 := by kernel_rfl
@[go_sem] theorem Tryd.bytes26 : bytesV Tryd.prog 26 = some 8 := by kernel_rfl
@[go_sem] theorem Tryd.agg26 : isAggB Tryd.prog 26 = some false := by kernel_rfl
@[go_sem] theorem Tryd.zero26 : zeroC Tryd.prog 26 = some [.nilf] := by kernel_rfl
theorem Tryd.nk26 : nilKind Tryd.prog 26 = 3 := by kernel_rfl
@[go_sem] theorem Tryd.eqn26 (a : V) : binV Tryd.prog .eql 26 a .nilf = (nilK 3 a).map .bool := (binV_nil _ _ Tryd.nk26 (by simp) a).1
@[go_sem] theorem Tryd.nen26 (a : V) : binV Tryd.prog .neq 26 a .nilf = (nilK 3 a).map fun r => .bool (!r) := (binV_nil _ _ Tryd.nk26 (by simp) a).2
theorem Tryd.shape27 : shapeOf Tryd.prog 27 = some (false, 1) := by kernel_rfl
@[go_sem] theorem Tryd.load27 (H : Heap) (a : V) : readV Tryd.prog H 27 a = loadK (some (false, 1)) (obOf H a) a := readV_K Tryd.shape27 H a
@[go_sem] theorem Tryd.sz27 : szOf Tryd.prog 27 = some 1 := by kernel_rfl
@[go_sem] theorem Tryd.bytes27 : bytesV Tryd.prog 27 = some 8 := by kernel_rfl
@[go_sem] theorem Tryd.agg27 : isAggB Tryd.prog 27 = some false := by kernel_rfl
@[go_sem] theorem Tryd.zero27 : zeroC Tryd.prog 27 = some [.nilf] := by kernel_rfl
theorem Tryd.nk27 : nilKind Tryd.prog 27 = 3 := by kernel_rfl
@[go_sem] theorem Tryd.eqn27 (a : V) : binV Tryd.prog .eql 27 a .nilf = (nilK 3 a).map .bool := (binV_nil _ _ Tryd.nk27 (by simp) a).1
@[go_sem] theorem Tryd.nen27 (a : V) : binV Tryd.prog .neq 27 a .nilf = (nilK 3 a).map fun r => .bool (!r) := (binV_nil _ _ Tryd.nk27 (by simp) a).2
theorem Tryd.shape28 : shapeOf Tryd.prog 28 = some (false, 1) := by kernel_rfl
@[go_sem] theorem Tryd.load28 (H : Heap) (a : V) : readV Tryd.prog H 28 a = loadK (some (false, 1)) (obOf H a) a := readV_K Tryd.shape28 H a
@[go_sem] theorem Tryd.sz28 : szOf Tryd.prog 28 = some 1 := by kernel_rfl
@[go_sem] theorem Tryd.bytes28 : bytesV Tryd.prog 28 = some 8 := by kernel_rfl
@[go_sem] theorem Tryd.agg28 : isAggB Tryd.prog 28 = some false := by kernel_rfl
@[go_sem] theorem Tryd.zero28 : zeroC Tryd.prog 28 = some [.nilf] := by kernel_rfl
theorem Tryd.nk28 : nilKind Tryd.prog 28 = 3 := by kernel_rfl
@[go_sem] theorem Tryd.eqn28 (a : V) : binV Tryd.prog .eql 28 a .nilf = (nilK 3 a).map .bool := (binV_nil _ _ Tryd.nk28 (by simp) a).1
@[go_sem] theorem Tryd.nen28 (a : V) : binV Tryd.prog .neq 28 a .nilf = (nilK 3 a).map fun r => .bool (!r) := (binV_nil _ _ Tryd.nk28 (by simp) a).2
theorem Tryd.shape29 : shapeOf Tryd.prog 29 = some (false, 1) := by kernel_rfl
@[go_sem] theorem Tryd.load29 (H : Heap) (a : V) : readV Tryd.prog H 29 a = loadK (some (false, 1)) (obOf H a) a := readV_K Tryd.shape29 H a
@[go_sem] theorem Tryd.sz29 : szOf Tryd.prog 29 = some 1 := by kernel_rfl
@[go_sem] theorem Tryd.bytes29 : bytesV Tryd.prog 29 = some 8 := by kernel_rfl
@[go_sem] theorem Tryd.agg29 : isAggB Tryd.prog 29 = some false := by kernel_rfl
@[go_sem] theorem Tryd.zero29 : zeroC Tryd.prog 29 = some [.nilf] := by kernel_rfl
theorem Tryd.nk29 : nilKind Tryd.prog 29 = 3 := by kernel_rfl
@[go_sem] theorem Tryd.eqn29 (a : V) : binV Tryd.prog .eql 29 a .nilf = (nilK 3 a).map .bool := (binV_nil _ _ Tryd.nk29 (by simp) a).1
@[go_sem] theorem Tryd.nen29 (a : V) : binV Tryd.prog .neq 29 a .nilf = (nilK 3 a).map fun r => .bool (!r) := (binV_nil _ _ Tryd.nk29 (by simp) a).2
theorem Tryd.shape30 : shapeOf Tryd.prog 30 = some (false, 1) := by kernel_rfl
@[go_sem] theorem Tryd.load30 (H : Heap) (a : V) : readV Tryd.prog H 30 a = loadK (some (false, 1)) (obOf H a) a := readV_K Tryd.shape30 H a
@[go_sem] theorem Tryd.sz30 : szOf Tryd.prog 30 = some 1 := by kernel_rfl
@[go_sem] theorem Tryd.bytes30 : bytesV Tryd.prog 30 = some 8 := by kernel_rfl
@[go_sem] theorem Tryd.agg30 : isAggB Tryd.prog 30 = some false := by kernel_rfl
@[go_sem] theorem Tryd.zero30 : zeroC Tryd.prog 30 = some [.nilf] := by kernel_rfl
theorem Tryd.nk30 : nilKind Tryd.prog 30 = 3 := by kernel_rfl
@[go_sem] theorem Tryd.eqn30 (a : V) : binV Tryd.prog .eql 30 a .nilf = (nilK 3 a).map .bool := (binV_nil _ _ Tryd.nk30 (by simp) a).1
@[go_sem] theorem Tryd.nen30 (a : V) : binV Tryd.prog .neq 30 a .nilf = (nilK 3 a).map fun r => .bool (!r) := (binV_nil _ _ Tryd.nk30 (by simp) a).2
theorem Tryd.shape31 : shapeOf Tryd.prog 31 = some (false, 1) := by kernel_rfl
@[go_sem] theorem Tryd.load31 (H : Heap) (a : V) : readV Tryd.prog H 31 a = loadK (some (false, 1)) (obOf H a) a := readV_K Tryd.shape31 H a
@[go_sem] theorem Tryd.sz31 : szOf Tryd.prog 31 = some 1 := by kernel_rfl
@[go_sem] theorem Tryd.bytes31 : bytesV Tryd.prog 31 = some 8 := by kernel_rfl
@[go_sem] theorem Tryd.agg31 : isAggB Tryd.prog 31 = some false := by kernel_rfl
@[go_sem] theorem Tryd.zero31 : zeroC Tryd.prog 31 = some [.nilf] := by kernel_rfl
theorem Tryd.nk31 : nilKind Tryd.prog 31 = 3 := by kernel_rfl
@[go_sem] theorem Tryd.eqn31 (a : V) : binV Tryd.prog .eql 31 a .nilf = (nilK 3 a).map .bool := (binV_nil _ _ Tryd.nk31 (by simp) a).1
@[go_sem] theorem Tryd.nen31 (a : V) : binV Tryd.prog .neq 31 a .nilf = (nilK 3 a).map fun r => .bool (!r) := (binV_nil _ _ Tryd.nk31 (by simp) a).2
theorem Tryd.shape32 : shapeOf Tryd.prog 32 = some (false, 1) := by kernel_rfl
@[go_sem] theorem Tryd.load32 (H : Heap) (a : V) : readV Tryd.prog H 32 a = loadK (some (false, 1)) (obOf H a) a := readV_K Tryd.shape32 H a
@[go_sem] theorem Tryd.sz32 : szOf Tryd.prog 32 = some 1 := by kernel_rfl
@[go_sem] theorem Tryd.bytes32 : bytesV Tryd.prog 32 = some 8 := by kernel_rfl
@[go_sem] theorem Tryd.agg32 : isAggB Tryd.prog 32 = some false := by kernel_rfl
@[go_sem] theorem Tryd.zero32 : zeroC Tryd.prog 32 = some [.nilf] := by kernel_rfl
theorem Tryd.nk32 : nilKind Tryd.prog 32 = 3 := by kernel_rfl
@[go_sem] theorem Tryd.eqn32 (a : V) : binV Tryd.prog .eql 32 a .nilf = (nilK 3 a).map .bool := (binV_nil _ _ Tryd.nk32 (by simp) a).1
@[go_sem] theorem Tryd.nen32 (a : V) : binV Tryd.prog .neq 32 a .nilf = (nilK 3 a).map fun r => .bool (!r) := (binV_nil _ _ Tryd.nk32 (by simp) a).2
theorem Tryd.shape33 : shapeOf Tryd.prog 33 = some (false, 1) := by kernel_rfl
@[go_sem] theorem Tryd.load33 (H : Heap) (a : V) : readV Tryd.prog H 33 a = loadK (some (false, 1)) (obOf H a) a := readV_K Tryd.shape33 H a
@[go_sem] theorem Tryd.sz33 : szOf Tryd.prog 33 = some 1 := by kernel_rfl
@[go_sem] theorem Tryd.bytes33 : bytesV Tryd.prog 33 = some 8 := by kernel_rfl
@[go_sem] theorem Tryd.agg33 : isAggB Tryd.prog 33 = some false := by kernel_rfl
@[go_sem] theorem Tryd.zero33 : zeroC Tryd.prog 33 = some [.nilf] := by kernel_rfl
theorem Tryd.nk33 : nilKind Tryd.prog 33 = 3 := by kernel_rfl
@[go_sem] theorem Tryd.eqn33 (a : V) : binV Tryd.prog .eql 33 a .nilf = (nilK 3 a).map .bool := (binV_nil _ _ Tryd.nk33 (by simp) a).1
@[go_sem] theorem Tryd.nen33 (a : V) : binV Tryd.prog .neq 33 a .nilf = (nilK 3 a).map fun r => .bool (!r) := (binV_nil _ _ Tryd.nk33 (by simp) a).2
theorem Tryd.shape34 : shapeOf Tryd.prog 34 = some (false, 1) := by kernel_rfl
@[go_sem] theorem Tryd.load34 (H : Heap) (a : V) : readV Tryd.prog H 34 a = loadK (some (false, 1)) (obOf H a) a := readV_K Tryd.shape34 H a
@[go_sem] theorem Tryd.sz34 : szOf Tryd.prog 34 = some 1 := by kernel_rfl
@[go_sem] theorem Tryd.bytes34 : bytesV Tryd.prog 34 = some 8 := by kernel_rfl
@[go_sem] theorem Tryd.agg34 : isAggB Tryd.prog 34 = some false := by kernel_rfl
@[go_sem] theorem Tryd.zero34 : zeroC Tryd.prog 34 = some [.nilf] := by kernel_rfl
theorem Tryd.nk34 : nilKind Tryd.prog 34 = 3 := by kernel_rfl
@[go_sem] theorem Tryd.eqn34 (a : V) : binV Tryd.prog .eql 34 a .nilf = (nilK 3 a).map .bool := (binV_nil _ _ Tryd.nk34 (by simp) a).1
@[go_sem] theorem Tryd.nen34 (a : V) : binV Tryd.prog .neq 34 a .nilf = (nilK 3 a).map fun r => .bool (!r) := (binV_nil _ _ Tryd.nk34 (by simp) a).2
theorem Tryd.shape35 : shapeOf Tryd.prog 35 = some (false, 1) := by kernel_rfl
@[go_sem] theorem Tryd.load35 (H : Heap) (a : V) : readV Tryd.prog H 35 a = loadK (some (false, 1)) (obOf H a) a := readV_K Tryd.shape35 H a
@[go_sem] theorem Tryd.sz35 : szOf Tryd.prog 35 = some 1 := by kernel_rfl
@[go_sem] theorem Tryd.bytes35 : bytesV Tryd.prog 35 = some 8 := by kernel_rfl
@[go_sem] theorem Tryd.agg35 : isAggB Tryd.prog 35 = some false := by kernel_rfl
@[go_sem] theorem Tryd.zero35 : zeroC Tryd.prog 35 = some [.nilf] := by kernel_rfl
theorem Tryd.nk35 : nilKind Tryd.prog 35 = 3 := by kernel_rfl
@[go_sem] theorem Tryd.eqn35 (a : V) : binV Tryd.prog .eql 35 a .nilf = (nilK 3 a).map .bool := (binV_nil _ _ Tryd.nk35 (by simp) a).1
@[go_sem] theorem Tryd.nen35 (a : V) : binV Tryd.prog .neq 35 a .nilf = (nilK 3 a).map fun r => .bool (!r) := (binV_nil _ _ Tryd.nk35 (by simp) a).2
theorem Tryd.shape36 : shapeOf Tryd.prog 36 = some (false, 1) := by kernel_rfl
@[go_sem] theorem Tryd.load36 (H : Heap) (a : V) : readV Tryd.prog H 36 a = loadK (some (false, 1)) (obOf H a) a := readV_K Tryd.shape36 H a
@[go_sem] theorem Tryd.sz36 : szOf Tryd.prog 36 = some 1 := by kernel_rfl
@[go_sem] theorem Tryd.bytes36 : bytesV Tryd.prog 36 = some 24 := by kernel_rfl
@[go_sem] theorem Tryd.agg36 : isAggB Tryd.prog 36 = some false := by kernel_rfl
@[go_sem] theorem Tryd.zero36 : zeroC Tryd.prog 36 = some [.nils] := by kernel_rfl
theorem Tryd.nk36 : nilKind Tryd.prog 36 = 2 := by kernel_rfl
@[go_sem] theorem Tryd.eqn36 (a : V) : binV Tryd.prog .eql 36 a .nils = (nilK 2 a).map .bool := (binV_nil _ _ Tryd.nk36 (by simp) a).1
@[go_sem] theorem Tryd.nen36 (a : V) : binV Tryd.prog .neq 36 a .nils = (nilK 2 a).map fun r => .bool (!r) := (binV_nil _ _ Tryd.nk36 (by simp) a).2
theorem Tryd.elem36 : elemOf Tryd.prog 36 = some 1 := by kernel_rfl
@[go_sem] theorem Tryd.idx36 (a i : V) : indexAddrV Tryd.prog 36 a i = idxK (some 1) a i := indexAddrV_K Tryd.elem36 a i
@[go_sem] theorem Tryd.len36 (a : V) : lenV Tryd.prog 36 a = lenK true a := lenV_slice Tryd.elem36 a
@[go_sem] theorem Tryd.sl36 (a : V) (lo hi : Option V) : sliceV Tryd.prog 36 a lo hi none = slK 1 a lo hi := sliceV_K Tryd.elem36 a lo hi
@[go_sem] theorem Tryd.bs36 (n : Nat) (l : List (Nat × V)) : bsCells Tryd.prog 36 n l = bsK 1 [.str []] n l := bsCells_K (P := Tryd.prog) (t := 36) (e := 9) (m := 1) (z := [.str []]) (by kernel_rfl) (by kernel_rfl) (by kernel_rfl) rfl n l
@[go_sem] theorem Tryd.ms36 (a b : V) : msCells Tryd.prog 36 a b = msK 1 16 [.str []] a b := msCells_K (P := Tryd.prog) (t := 36) (e := 9) (E := 1) (bytes := 16) (z := [.str []]) (by kernel_rfl) (by kernel_rfl) (by kernel_rfl) (by kernel_rfl) rfl a b
theorem Tryd.app36 : appOf Tryd.prog [36, 36] = some (1, 16) := by kernel_rfl
@[go_sem] theorem Tryd.appc36 (E : Ent) (ops : Array Oper) (Q : AS → Prop) (rest : List Oper) (e : Nat) (τ : Nat → V) (H : Heap) (a b : V) : appC Tryd.prog E ops Q rest e τ H [36, 36] a b = appE Tryd.prog E ops Q rest e τ H 1 16 a (srcCells H 1 b) (obS H a) := appC_E ops Tryd.app36 e a b
theorem Tryd.shape37 : shapeOf Tryd.prog 37 = some (false, 1) := by kernel_rfl
@[go_sem] theorem Tryd.load37 (H : Heap) (a : V) : readV Tryd.prog H 37 a = loadK (some (false, 1)) (obOf H a) a := readV_K Tryd.shape37 H a
@[go_sem] theorem Tryd.sz37 : szOf Tryd.prog 37 = some 1 := by kernel_rfl
@[go_sem] theorem Tryd.bytes37 : bytesV Tryd.prog 37 = some 8 := by kernel_rfl
@[go_sem] theorem Tryd.agg37 : isAggB Tryd.prog 37 = some false := by kernel_rfl
@[go_sem] theorem Tryd.zero37 : zeroC Tryd.prog 37 = some [.nilf] := by kernel_rfl
theorem Tryd.nk37 : nilKind Tryd.prog 37 = 3 := by kernel_rfl
@[go_sem] theorem Tryd.eqn37 (a : V) : binV Tryd.prog .eql 37 a .nilf = (nilK 3 a).map .bool := (binV_nil _ _ Tryd.nk37 (by simp) a).1
@[go_sem] theorem Tryd.nen37 (a : V) : binV Tryd.prog .neq 37 a .nilf = (nilK 3 a).map fun r => .bool (!r) := (binV_nil _ _ Tryd.nk37 (by simp) a).2
theorem Tryd.shape38 : shapeOf Tryd.prog 38 = some (false, 1) := by kernel_rfl
@[go_sem] theorem Tryd.load38 (H : Heap) (a : V) : readV Tryd.prog H 38 a = loadK (some (false, 1)) (obOf H a) a := readV_K Tryd.shape38 H a
@[go_sem] theorem Tryd.sz38 : szOf Tryd.prog 38 = some 1 := by kernel_rfl
@[go_sem] theorem Tryd.bytes38 : bytesV Tryd.prog 38 = some 16 := by kernel_rfl
@[go_sem] theorem Tryd.agg38 : isAggB Tryd.prog 38 = some false := by kernel_rfl
@[go_sem] theorem Tryd.zero38 : zeroC Tryd.prog 38 = some [.nili] := by kernel_rfl
theorem Tryd.nk38 : nilKind Tryd.prog 38 = 4 := by kernel_rfl
@[go_sem] theorem Tryd.eqn38 (a : V) : binV Tryd.prog .eql 38 a .nili = (nilK 4 a).map .bool := (binV_nil _ _ Tryd.nk38 (by simp) a).1
@[go_sem] theorem Tryd.nen38 (a : V) : binV Tryd.prog .neq 38 a .nili = (nilK 4 a).map fun r => .bool (!r) := (binV_nil _ _ Tryd.nk38 (by simp) a).2
theorem Tryd.shape39 : shapeOf Tryd.prog 39 = some (false, 1) := by kernel_rfl
@[go_sem] theorem Tryd.load39 (H : Heap) (a : V) : readV Tryd.prog H 39 a = loadK (some (false, 1)) (obOf H a) a := readV_K Tryd.shape39 H a
@[go_sem] theorem Tryd.sz39 : szOf Tryd.prog 39 = some 1 := by kernel_rfl
@[go_sem] theorem Tryd.bytes39 : bytesV Tryd.prog 39 = some 16 := by kernel_rfl
@[go_sem] theorem Tryd.agg39 : isAggB Tryd.prog 39 = some false := by kernel_rfl
@[go_sem] theorem Tryd.zero39 : zeroC Tryd.prog 39 = some [.nili] := by kernel_rfl
theorem Tryd.nk39 : nilKind Tryd.prog 39 = 4 := by kernel_rfl
@[go_sem] theorem Tryd.eqn39 (a : V) : binV Tryd.prog .eql 39 a .nili = (nilK 4 a).map .bool := (binV_nil _ _ Tryd.nk39 (by simp) a).1
@[go_sem] theorem Tryd.nen39 (a : V) : binV Tryd.prog .neq 39 a .nili = (nilK 4 a).map fun r => .bool (!r) := (binV_nil _ _ Tryd.nk39 (by simp) a).2
theorem Tryd.shape41 : shapeOf Tryd.prog 41 = some (false, 1) := by kernel_rfl
@[go_sem] theorem Tryd.load41 (H : Heap) (a : V) : readV Tryd.prog H 41 a = loadK (some (false, 1)) (obOf H a) a := readV_K Tryd.shape41 H a
@[go_sem] theorem Tryd.sz41 : szOf Tryd.prog 41 = some 1 := by kernel_rfl
@[go_sem] theorem Tryd.bytes41 : bytesV Tryd.prog 41 = some 8 := by kernel_rfl
@[go_sem] theorem Tryd.agg41 : isAggB Tryd.prog 41 = some false := by kernel_rfl
@[go_sem] theorem Tryd.zero41 : zeroC Tryd.prog 41 = some [.nilf] := by kernel_rfl
theorem Tryd.nk41 : nilKind Tryd.prog 41 = 3 := by kernel_rfl
@[go_sem] theorem Tryd.eqn41 (a : V) : binV Tryd.prog .eql 41 a .nilf = (nilK 3 a).map .bool := (binV_nil _ _ Tryd.nk41 (by simp) a).1
@[go_sem] theorem Tryd.nen41 (a : V) : binV Tryd.prog .neq 41 a .nilf = (nilK 3 a).map fun r => .bool (!r) := (binV_nil _ _ Tryd.nk41 (by simp) a).2
theorem Tryd.shape42 : shapeOf Tryd.prog 42 = some (false, 1) := by kernel_rfl
@[go_sem] theorem Tryd.load42 (H : Heap) (a : V) : readV Tryd.prog H 42 a = loadK (some (false, 1)) (obOf H a) a := readV_K Tryd.shape42 H a
@[go_sem] theorem Tryd.sz42 : szOf Tryd.prog 42 = some 1 := by kernel_rfl
@[go_sem] theorem Tryd.bytes42 : bytesV Tryd.prog 42 = some 8 := by kernel_rfl
@[go_sem] theorem Tryd.agg42 : isAggB Tryd.prog 42 = some false := by kernel_rfl
@[go_sem] theorem Tryd.zero42 : zeroC Tryd.prog 42 = some [.nilf] := by kernel_rfl
theorem Tryd.nk42 : nilKind Tryd.prog 42 = 3 := by kernel_rfl
@[go_sem] theorem Tryd.eqn42 (a : V) : binV Tryd.prog .eql 42 a .nilf = (nilK 3 a).map .bool := (binV_nil _ _ Tryd.nk42 (by simp) a).1
@[go_sem] theorem Tryd.nen42 (a : V) : binV Tryd.prog .neq 42 a .nilf = (nilK 3 a).map fun r => .bool (!r) := (binV_nil _ _ Tryd.nk42 (by simp) a).2
theorem Tryd.shape43 : shapeOf Tryd.prog 43 = some (false, 1) := by kernel_rfl
@[go_sem] theorem Tryd.load43 (H : Heap) (a : V) : readV Tryd.prog H 43 a = loadK (some (false, 1)) (obOf H a) a := readV_K Tryd.shape43 H a
@[go_sem] theorem Tryd.sz43 : szOf Tryd.prog 43 = some 1 := by kernel_rfl
@[go_sem] theorem Tryd.bytes43 : bytesV Tryd.prog 43 = some 24 := by kernel_rfl
@[go_sem] theorem Tryd.agg43 : isAggB Tryd.prog 43 = some false := by kernel_rfl
@[go_sem] theorem Tryd.zero43 : zeroC Tryd.prog 43 = some [.nils] := by kernel_rfl
theorem Tryd.nk43 : nilKind Tryd.prog 43 = 2 := by kernel_rfl
@[go_sem] theorem Tryd.eqn43 (a : V) : binV Tryd.prog .eql 43 a .nils = (nilK 2 a).map .bool := (binV_nil _ _ Tryd.nk43 (by simp) a).1
@[go_sem] theorem Tryd.nen43 (a : V) : binV Tryd.prog .neq 43 a .nils = (nilK 2 a).map fun r => .bool (!r) := (binV_nil _ _ Tryd.nk43 (by simp) a).2
theorem Tryd.elem43 : elemOf Tryd.prog 43 = some 1 := by kernel_rfl
@[go_sem] theorem Tryd.idx43 (a i : V) : indexAddrV Tryd.prog 43 a i = idxK (some 1) a i := indexAddrV_K Tryd.elem43 a i
@[go_sem] theorem Tryd.len43 (a : V) : lenV Tryd.prog 43 a = lenK true a := lenV_slice Tryd.elem43 a
@[go_sem] theorem Tryd.sl43 (a : V) (lo hi : Option V) : sliceV Tryd.prog 43 a lo hi none = slK 1 a lo hi := sliceV_K Tryd.elem43 a lo hi
@[go_sem] theorem Tryd.bs43 (n : Nat) (l : List (Nat × V)) : bsCells Tryd.prog 43 n l = bsK 1 [.int .i64 0] n l := bsCells_K (P := Tryd.prog) (t := 43) (e := 3) (m := 1) (z := [.int .i64 0]) (by kernel_rfl) (by kernel_rfl) (by kernel_rfl) rfl n l
@[go_sem] theorem Tryd.ms43 (a b : V) : msCells Tryd.prog 43 a b = msK 1 8 [.int .i64 0] a b := msCells_K (P := Tryd.prog) (t := 43) (e := 3) (E := 1) (bytes := 8) (z := [.int .i64 0]) (by kernel_rfl) (by kernel_rfl) (by kernel_rfl) (by kernel_rfl) rfl a b
theorem Tryd.app43 : appOf Tryd.prog [43, 43] = some (1, 8) := by kernel_rfl
@[go_sem] theorem Tryd.appc43 (E : Ent) (ops : Array Oper) (Q : AS → Prop) (rest : List Oper) (e : Nat) (τ : Nat → V) (H : Heap) (a b : V) : appC Tryd.prog E ops Q rest e τ H [43, 43] a b = appE Tryd.prog E ops Q rest e τ H 1 8 a (srcCells H 1 b) (obS H a) := appC_E ops Tryd.app43 e a b
theorem Tryd.shape44 : shapeOf Tryd.prog 44 = some (false, 1) := by kernel_rfl
@[go_sem] theorem Tryd.load44 (H : Heap) (a : V) : readV Tryd.prog H 44 a = loadK (some (false, 1)) (obOf H a) a := readV_K Tryd.shape44 H a
@[go_sem] theorem Tryd.sz44 : szOf Tryd.prog 44 = some 1 := by kernel_rfl
@[go_sem] theorem Tryd.bytes44 : bytesV Tryd.prog 44 = some 8 := by kernel_rfl
@[go_sem] theorem Tryd.agg44 : isAggB Tryd.prog 44 = some false := by kernel_rfl
@[go_sem] theorem Tryd.zero44 : zeroC Tryd.prog 44 = some [.nilf] := by kernel_rfl
theorem Tryd.nk44 : nilKind Tryd.prog 44 = 3 := by kernel_rfl
@[go_sem] theorem Tryd.eqn44 (a : V) : binV Tryd.prog .eql 44 a .nilf = (nilK 3 a).map .bool := (binV_nil _ _ Tryd.nk44 (by simp) a).1
@[go_sem] theorem Tryd.nen44 (a : V) : binV Tryd.prog .neq 44 a .nilf = (nilK 3 a).map fun r => .bool (!r) := (binV_nil _ _ Tryd.nk44 (by simp) a).2
theorem Tryd.shape45 : shapeOf Tryd.prog 45 = some (false, 1) := by kernel_rfl
@[go_sem] theorem Tryd.load45 (H : Heap) (a : V) : readV Tryd.prog H 45 a = loadK (some (false, 1)) (obOf H a) a := readV_K Tryd.shape45 H a
@[go_sem] theorem Tryd.sz45 : szOf Tryd.prog 45 = some 1 := by kernel_rfl
@[go_sem] theorem Tryd.bytes45 : bytesV Tryd.prog 45 = some 8 := by kernel_rfl
@[go_sem] theorem Tryd.agg45 : isAggB Tryd.prog 45 = some false := by kernel_rfl
@[go_sem] theorem Tryd.zero45 : zeroC Tryd.prog 45 = some [.nilf] := by kernel_rfl
theorem Tryd.nk45 : nilKind Tryd.prog 45 = 3 := by kernel_rfl
@[go_sem] theorem Tryd.eqn45 (a : V) : binV Tryd.prog .eql 45 a .nilf = (nilK 3 a).map .bool := (binV_nil _ _ Tryd.nk45 (by simp) a).1
@[go_sem] theorem Tryd.nen45 (a : V) : binV Tryd.prog .neq 45 a .nilf = (nilK 3 a).map fun r => .bool (!r) := (binV_nil _ _ Tryd.nk45 (by simp) a).2
theorem Tryd.shape46 : shapeOf Tryd.prog 46 = some (true, 2) := by kernel_rfl
@[go_sem] theorem Tryd.load46 (H : Heap) (a : V) : readV Tryd.prog H 46 a = loadK (some (true, 2)) (obOf H a) a := readV_K Tryd.shape46 H a
@[go_sem] theorem Tryd.sz46 : szOf Tryd.prog 46 = some 2 := by kernel_rfl
@[go_sem] theorem Tryd.bytes46 : bytesV Tryd.prog 46 = some 32 := by kernel_rfl
@[go_sem] theorem Tryd.agg46 : isAggB Tryd.prog 46 = some true := by kernel_rfl
@[go_sem] theorem Tryd.zero46 : zeroC Tryd.prog 46 = some [.nils, .bool false] := by kernel_rfl
theorem Tryd.zeroV46 : zeroV Tryd.prog 46 = some (.agg [.nils, .bool false]) := by kernel_rfl
@[go_sem] theorem Tryd.bld46 (l : List (Nat × V)) : buildV Tryd.prog 46 l = (fillV (tblP [(0, 1), (1, 1)]) [.nils, .bool false] l).map .agg := buildV_K (P := Tryd.prog) (t := 46) (tbl := [(0, 1), (1, 1)]) (z := [.nils, .bool false]) (by kernel_rfl) (by kernel_rfl) l
theorem Tryd.fld46_0 : fldOf Tryd.prog 46 0 = some (0, false, 1) := by kernel_rfl
@[go_sem] theorem Tryd.fa46_0 (a : V) : fieldAddrV Tryd.prog 46 a 0 = fldK (some (0, false, 1)) a := fieldAddrV_K Tryd.fld46_0 a
@[go_sem] theorem Tryd.fv46_0 (l : List V) : fieldV Tryd.prog 46 (.agg l) 0 = partC false 1 l 0 := fieldV_K Tryd.fld46_0 l
theorem Tryd.fld46_1 : fldOf Tryd.prog 46 1 = some (1, false, 1) := by kernel_rfl
@[go_sem] theorem Tryd.fa46_1 (a : V) : fieldAddrV Tryd.prog 46 a 1 = fldK (some (1, false, 1)) a := fieldAddrV_K Tryd.fld46_1 a
@[go_sem] theorem Tryd.fv46_1 (l : List V) : fieldV Tryd.prog 46 (.agg l) 1 = partC false 1 l 1 := fieldV_K Tryd.fld46_1 l
theorem Tryd.shape47 : shapeOf Tryd.prog 47 = some (true, 2) := by kernel_rfl
@[go_sem] theorem Tryd.load47 (H : Heap) (a : V) : readV Tryd.prog H 47 a = loadK (some (true, 2)) (obOf H a) a := readV_K Tryd.shape47 H a
@[go_sem] theorem Tryd.sz47 : szOf Tryd.prog 47 = some 2 := by kernel_rfl
@[go_sem] theorem Tryd.bytes47 : bytesV Tryd.prog 47 = some 32 := by kernel_rfl
@[go_sem] theorem Tryd.agg47 : isAggB Tryd.prog 47 = some true := by kernel_rfl
@[go_sem] theorem Tryd.zero47 : zeroC Tryd.prog 47 = some [.nils, .bool false] := by kernel_rfl
theorem Tryd.zeroV47 : zeroV Tryd.prog 47 = some (.agg [.nils, .bool false]) := by kernel_rfl
@[go_sem] theorem Tryd.bld47 (l : List (Nat × V)) : buildV Tryd.prog 47 l = (fillV (tblP [(0, 1), (1, 1)]) [.nils, .bool false] l).map .agg := buildV_K (P := Tryd.prog) (t := 47) (tbl := [(0, 1), (1, 1)]) (z := [.nils, .bool false]) (by kernel_rfl) (by kernel_rfl) l
theorem Tryd.fld47_0 : fldOf Tryd.prog 47 0 = some (0, false, 1) := by kernel_rfl
@[go_sem] theorem Tryd.fa47_0 (a : V) : fieldAddrV Tryd.prog 47 a 0 = fldK (some (0, false, 1)) a := fieldAddrV_K Tryd.fld47_0 a
@[go_sem] theorem Tryd.fv47_0 (l : List V) : fieldV Tryd.prog 47 (.agg l) 0 = partC false 1 l 0 := fieldV_K Tryd.fld47_0 l
theorem Tryd.fld47_1 : fldOf Tryd.prog 47 1 = some (1, false, 1) := by kernel_rfl
@[go_sem] theorem Tryd.fa47_1 (a : V) : fieldAddrV Tryd.prog 47 a 1 = fldK (some (1, false, 1)) a := fieldAddrV_K Tryd.fld47_1 a
@[go_sem] theorem Tryd.fv47_1 (l : List V) : fieldV Tryd.prog 47 (.agg l) 1 = partC false 1 l 1 := fieldV_K Tryd.fld47_1 l
theorem Tryd.shape48 : shapeOf Tryd.prog 48 = some (false, 1) := by kernel_rfl
@[go_sem] theorem Tryd.load48 (H : Heap) (a : V) : readV Tryd.prog H 48 a = loadK (some (false, 1)) (obOf H a) a := readV_K Tryd.shape48 H a
@[go_sem] theorem Tryd.sz48 : szOf Tryd.prog 48 = some 1 := by kernel_rfl
@[go_sem] theorem Tryd.bytes48 : bytesV Tryd.prog 48 = some 8 := by kernel_rfl
@[go_sem] theorem Tryd.agg48 : isAggB Tryd.prog 48 = some false := by kernel_rfl
@[go_sem] theorem Tryd.zero48 : zeroC Tryd.prog 48 = some [.nilf] := by kernel_rfl
theorem Tryd.nk48 : nilKind Tryd.prog 48 = 3 := by kernel_rfl
@[go_sem] theorem Tryd.eqn48 (a : V) : binV Tryd.prog .eql 48 a .nilf = (nilK 3 a).map .bool := (binV_nil _ _ Tryd.nk48 (by simp) a).1
@[go_sem] theorem Tryd.nen48 (a : V) : binV Tryd.prog .neq 48 a .nilf = (nilK 3 a).map fun r => .bool (!r) := (binV_nil _ _ Tryd.nk48 (by simp) a).2
theorem Tryd.shape49 : shapeOf Tryd.prog 49 = some (false, 1) := by kernel_rfl
@[go_sem] theorem Tryd.load49 (H : Heap) (a : V) : readV Tryd.prog H 49 a = loadK (some (false, 1)) (obOf H a) a := readV_K Tryd.shape49 H a
@[go_sem] theorem Tryd.sz49 : szOf Tryd.prog 49 = some 1 := by kernel_rfl
@[go_sem] theorem Tryd.bytes49 : bytesV Tryd.prog 49 = some 8 := by kernel_rfl
@[go_sem] theorem Tryd.agg49 : isAggB Tryd.prog 49 = some false := by kernel_rfl
@[go_sem] theorem Tryd.zero49 : zeroC Tryd.prog 49 = some [.nilf] := by kernel_rfl
theorem Tryd.nk49 : nilKind Tryd.prog 49 = 3 := by kernel_rfl
@[go_sem] theorem Tryd.eqn49 (a : V) : binV Tryd.prog .eql 49 a .nilf = (nilK 3 a).map .bool := (binV_nil _ _ Tryd.nk49 (by simp) a).1
@[go_sem] theorem Tryd.nen49 (a : V) : binV Tryd.prog .neq 49 a .nilf = (nilK 3 a).map fun r => .bool (!r) := (binV_nil _ _ Tryd.nk49 (by simp) a).2
theorem Tryd.shape50 : shapeOf Tryd.prog 50 = some (false, 1) := by kernel_rfl
@[go_sem] theorem Tryd.load50 (H : Heap) (a : V) : readV Tryd.prog H 50 a = loadK (some (false, 1)) (obOf H a) a := readV_K Tryd.shape50 H a
@[go_sem] theorem Tryd.sz50 : szOf Tryd.prog 50 = some 1 := by kernel_rfl
@[go_sem] theorem Tryd.bytes50 : bytesV Tryd.prog 50 = some 24 := by kernel_rfl
@[go_sem] theorem Tryd.agg50 : isAggB Tryd.prog 50 = some false := by kernel_rfl
@[go_sem] theorem Tryd.zero50 : zeroC Tryd.prog 50 = some [.nils] := by kernel_rfl
theorem Tryd.nk50 : nilKind Tryd.prog 50 = 2 := by kernel_rfl
@[go_sem] theorem Tryd.eqn50 (a : V) : binV Tryd.prog .eql 50 a .nils = (nilK 2 a).map .bool := (binV_nil _ _ Tryd.nk50 (by simp) a).1
@[go_sem] theorem Tryd.nen50 (a : V) : binV Tryd.prog .neq 50 a .nils = (nilK 2 a).map fun r => .bool (!r) := (binV_nil _ _ Tryd.nk50 (by simp) a).2
theorem Tryd.elem50 : elemOf Tryd.prog 50 = some 1 := by kernel_rfl
@[go_sem] theorem Tryd.idx50 (a i : V) : indexAddrV Tryd.prog 50 a i = idxK (some 1) a i := indexAddrV_K Tryd.elem50 a i
@[go_sem] theorem Tryd.len50 (a : V) : lenV Tryd.prog 50 a = lenK true a := lenV_slice Tryd.elem50 a
@[go_sem] theorem Tryd.sl50 (a : V) (lo hi : Option V) : sliceV Tryd.prog 50 a lo hi none = slK 1 a lo hi := sliceV_K Tryd.elem50 a lo hi
@[go_sem] theorem Tryd.bs50 (n : Nat) (l : List (Nat × V)) : bsCells Tryd.prog 50 n l = bsK 1 [.int .u8 0] n l := bsCells_K (P := Tryd.prog) (t := 50) (e := 5) (m := 1) (z := [.int .u8 0]) (by kernel_rfl) (by kernel_rfl) (by kernel_rfl) rfl n l
@[go_sem] theorem Tryd.ms50 (a b : V) : msCells Tryd.prog 50 a b = msK 1 1 [.int .u8 0] a b := msCells_K (P := Tryd.prog) (t := 50) (e := 5) (E := 1) (bytes := 1) (z := [.int .u8 0]) (by kernel_rfl) (by kernel_rfl) (by kernel_rfl) (by kernel_rfl) rfl a b
theorem Tryd.app50 : appOf Tryd.prog [50, 50] = some (1, 1) := by kernel_rfl
@[go_sem] theorem Tryd.appc50 (E : Ent) (ops : Array Oper) (Q : AS → Prop) (rest : List Oper) (e : Nat) (τ : Nat → V) (H : Heap) (a b : V) : appC Tryd.prog E ops Q rest e τ H [50, 50] a b = appE Tryd.prog E ops Q rest e τ H 1 1 a (srcCells H 1 b) (obS H a) := appC_E ops Tryd.app50 e a b
theorem Tryd.shape51 : shapeOf Tryd.prog 51 = some (false, 1) := by kernel_rfl
@[go_sem] theorem Tryd.load51 (H : Heap) (a : V) : readV Tryd.prog H 51 a = loadK (some (false, 1)) (obOf H a) a := readV_K Tryd.shape51 H a
@[go_sem] theorem Tryd.sz51 : szOf Tryd.prog 51 = some 1 := by kernel_rfl
@[go_sem] theorem Tryd.bytes51 : bytesV Tryd.prog 51 = some 8 := by kernel_rfl
@[go_sem] theorem Tryd.agg51 : isAggB Tryd.prog 51 = some false := by kernel_rfl
@[go_sem] theorem Tryd.zero51 : zeroC Tryd.prog 51 = some [.nilf] := by kernel_rfl
theorem Tryd.nk51 : nilKind Tryd.prog 51 = 3 := by kernel_rfl
@[go_sem] theorem Tryd.eqn51 (a : V) : binV Tryd.prog .eql 51 a .nilf = (nilK 3 a).map .bool := (binV_nil _ _ Tryd.nk51 (by simp) a).1
@[go_sem] theorem Tryd.nen51 (a : V) : binV Tryd.prog .neq 51 a .nilf = (nilK 3 a).map fun r => .bool (!r) := (binV_nil _ _ Tryd.nk51 (by simp) a).2
theorem Tryd.shape52 : shapeOf Tryd.prog 52 = some (false, 1) := by kernel_rfl
@[go_sem] theorem Tryd.load52 (H : Heap) (a : V) : readV Tryd.prog H 52 a = loadK (some (false, 1)) (obOf H a) a := readV_K Tryd.shape52 H a
@[go_sem] theorem Tryd.sz52 : szOf Tryd.prog 52 = some 1 := by kernel_rfl
@[go_sem] theorem Tryd.bytes52 : bytesV Tryd.prog 52 = some 8 := by kernel_rfl
@[go_sem] theorem Tryd.agg52 : isAggB Tryd.prog 52 = some false := by kernel_rfl
@[go_sem] theorem Tryd.zero52 : zeroC Tryd.prog 52 = some [.nilf] := by kernel_rfl
theorem Tryd.nk52 : nilKind Tryd.prog 52 = 3 := by kernel_rfl
@[go_sem] theorem Tryd.eqn52 (a : V) : binV Tryd.prog .eql 52 a .nilf = (nilK 3 a).map .bool := (binV_nil _ _ Tryd.nk52 (by simp) a).1
@[go_sem] theorem Tryd.nen52 (a : V) : binV Tryd.prog .neq 52 a .nilf = (nilK 3 a).map fun r => .bool (!r) := (binV_nil _ _ Tryd.nk52 (by simp) a).2
theorem Tryd.shape53 : shapeOf Tryd.prog 53 = some (false, 1) := by kernel_rfl
@[go_sem] theorem Tryd.load53 (H : Heap) (a : V) : readV Tryd.prog H 53 a = loadK (some (false, 1)) (obOf H a) a := readV_K Tryd.shape53 H a
@[go_sem] theorem Tryd.sz53 : szOf Tryd.prog 53 = some 1 := by kernel_rfl
@[go_sem] theorem Tryd.bytes53 : bytesV Tryd.prog 53 = some 8 := by kernel_rfl
@[go_sem] theorem Tryd.agg53 : isAggB Tryd.prog 53 = some false := by kernel_rfl
@[go_sem] theorem Tryd.zero53 : zeroC Tryd.prog 53 = some [.int .u64 0] := by kernel_rfl
theorem Tryd.shape55 : shapeOf Tryd.prog 55 = some (false, 1) := by kernel_rfl
@[go_sem] theorem Tryd.load55 (H : Heap) (a : V) : readV Tryd.prog H 55 a = loadK (some (false, 1)) (obOf H a) a := readV_K Tryd.shape55 H a
@[go_sem] theorem Tryd.sz55 : szOf Tryd.prog 55 = some 1 := by kernel_rfl
@[go_sem] theorem Tryd.bytes55 : bytesV Tryd.prog 55 = some 8 := by kernel_rfl
@[go_sem] theorem Tryd.agg55 : isAggB Tryd.prog 55 = some false := by kernel_rfl
@[go_sem] theorem Tryd.zero55 : zeroC Tryd.prog 55 = some [.nilf] := by kernel_rfl
theorem Tryd.nk55 : nilKind Tryd.prog 55 = 3 := by kernel_rfl
@[go_sem] theorem Tryd.eqn55 (a : V) : binV Tryd.prog .eql 55 a .nilf = (nilK 3 a).map .bool := (binV_nil _ _ Tryd.nk55 (by simp) a).1
@[go_sem] theorem Tryd.nen55 (a : V) : binV Tryd.prog .neq 55 a .nilf = (nilK 3 a).map fun r => .bool (!r) := (binV_nil _ _ Tryd.nk55 (by simp) a).2
theorem Tryd.shape56 : shapeOf Tryd.prog 56 = some (false, 1) := by kernel_rfl
@[go_sem] theorem Tryd.load56 (H : Heap) (a : V) : readV Tryd.prog H 56 a = loadK (some (false, 1)) (obOf H a) a := readV_K Tryd.shape56 H a
@[go_sem] theorem Tryd.sz56 : szOf Tryd.prog 56 = some 1 := by kernel_rfl
@[go_sem] theorem Tryd.bytes56 : bytesV Tryd.prog 56 = some 8 := by kernel_rfl
@[go_sem] theorem Tryd.agg56 : isAggB Tryd.prog 56 = some false := by kernel_rfl
@[go_sem] theorem Tryd.zero56 : zeroC Tryd.prog 56 = some [.nilf] := by kernel_rfl
theorem Tryd.nk56 : nilKind Tryd.prog 56 = 3 := by kernel_rfl
@[go_sem] theorem Tryd.eqn56 (a : V) : binV Tryd.prog .eql 56 a .nilf = (nilK 3 a).map .bool := (binV_nil _ _ Tryd.nk56 (by simp) a).1
@[go_sem] theorem Tryd.nen56 (a : V) : binV Tryd.prog .neq 56 a .nilf = (nilK 3 a).map fun r => .bool (!r) := (binV_nil _ _ Tryd.nk56 (by simp) a).2
theorem Tryd.shape57 : shapeOf Tryd.prog 57 = some (false, 1) := by kernel_rfl
@[go_sem] theorem Tryd.load57 (H : Heap) (a : V) : readV Tryd.prog H 57 a = loadK (some (false, 1)) (obOf H a) a := readV_K Tryd.shape57 H a
@[go_sem] theorem Tryd.sz57 : szOf Tryd.prog 57 = some 1 := by kernel_rfl
@[go_sem] theorem Tryd.bytes57 : bytesV Tryd.prog 57 = some 8 := by kernel_rfl
@[go_sem] theorem Tryd.agg57 : isAggB Tryd.prog 57 = some false := by kernel_rfl
@[go_sem] theorem Tryd.zero57 : zeroC Tryd.prog 57 = some [.nilf] := by kernel_rfl
theorem Tryd.nk57 : nilKind Tryd.prog 57 = 3 := by kernel_rfl
@[go_sem] theorem Tryd.eqn57 (a : V) : binV Tryd.prog .eql 57 a .nilf = (nilK 3 a).map .bool := (binV_nil _ _ Tryd.nk57 (by simp) a).1
@[go_sem] theorem Tryd.nen57 (a : V) : binV Tryd.prog .neq 57 a .nilf = (nilK 3 a).map fun r => .bool (!r) := (binV_nil _ _ Tryd.nk57 (by simp) a).2
theorem Tryd.shape59 : shapeOf Tryd.prog 59 = some (false, 1) := by kernel_rfl
@[go_sem] theorem Tryd.load59 (H : Heap) (a : V) : readV Tryd.prog H 59 a = loadK (some (false, 1)) (obOf H a) a := readV_K Tryd.shape59 H a
@[go_sem] theorem Tryd.sz59 : szOf Tryd.prog 59 = some 1 := by kernel_rfl
@[go_sem] theorem Tryd.bytes59 : bytesV Tryd.prog 59 = some 8 := by kernel_rfl
@[go_sem] theorem Tryd.agg59 : isAggB Tryd.prog 59 = some false := by kernel_rfl
@[go_sem] theorem Tryd.zero59 : zeroC Tryd.prog 59 = some [.nilf] := by kernel_rfl
theorem Tryd.nk59 : nilKind Tryd.prog 59 = 3 := by kernel_rfl
@[go_sem] theorem Tryd.eqn59 (a : V) : binV Tryd.prog .eql 59 a .nilf = (nilK 3 a).map .bool := (binV_nil _ _ Tryd.nk59 (by simp) a).1
@[go_sem] theorem Tryd.nen59 (a : V) : binV Tryd.prog .neq 59 a .nilf = (nilK 3 a).map fun r => .bool (!r) := (binV_nil _ _ Tryd.nk59 (by simp) a).2
theorem Tryd.shape60 : shapeOf Tryd.prog 60 = some (false, 1) := by kernel_rfl
@[go_sem] theorem Tryd.load60 (H : Heap) (a : V) : readV Tryd.prog H 60 a = loadK (some (false, 1)) (obOf H a) a := readV_K Tryd.shape60 H a
@[go_sem] theorem Tryd.sz60 : szOf Tryd.prog 60 = some 1 := by kernel_rfl
@[go_sem] theorem Tryd.bytes60 : bytesV Tryd.prog 60 = some 8 := by kernel_rfl
@[go_sem] theorem Tryd.agg60 : isAggB Tryd.prog 60 = some false := by kernel_rfl
@[go_sem] theorem Tryd.zero60 : zeroC Tryd.prog 60 = some [.nilf] := by kernel_rfl
theorem Tryd.nk60 : nilKind Tryd.prog 60 = 3 := by kernel_rfl
@[go_sem] theorem Tryd.eqn60 (a : V) : binV Tryd.prog .eql 60 a .nilf = (nilK 3 a).map .bool := (binV_nil _ _ Tryd.nk60 (by simp) a).1
@[go_sem] theorem Tryd.nen60 (a : V) : binV Tryd.prog .neq 60 a .nilf = (nilK 3 a).map fun r => .bool (!r) := (binV_nil _ _ Tryd.nk60 (by simp) a).2
theorem Tryd.shape61 : shapeOf Tryd.prog 61 = some (false, 1) := by kernel_rfl
@[go_sem] theorem Tryd.load61 (H : Heap) (a : V) : readV Tryd.prog H 61 a = loadK (some (false, 1)) (obOf H a) a := readV_K Tryd.shape61 H a
@[go_sem] theorem Tryd.sz61 : szOf Tryd.prog 61 = some 1 := by kernel_rfl
@[go_sem] theorem Tryd.bytes61 : bytesV Tryd.prog 61 = some 8 := by kernel_rfl
@[go_sem] theorem Tryd.agg61 : isAggB Tryd.prog 61 = some false := by kernel_rfl
@[go_sem] theorem Tryd.zero61 : zeroC Tryd.prog 61 = some [.nilf] := by kernel_rfl
theorem Tryd.nk61 : nilKind Tryd.prog 61 = 3 := by kernel_rfl
@[go_sem] theorem Tryd.eqn61 (a : V) : binV Tryd.prog .eql 61 a .nilf = (nilK 3 a).map .bool := (binV_nil _ _ Tryd.nk61 (by simp) a).1
@[go_sem] theorem Tryd.nen61 (a : V) : binV Tryd.prog .neq 61 a .nilf = (nilK 3 a).map fun r => .bool (!r) := (binV_nil _ _ Tryd.nk61 (by simp) a).2
theorem Tryd.shape62 : shapeOf Tryd.prog 62 = some (false, 1) := by kernel_rfl
@[go_sem] theorem Tryd.load62 (H : Heap) (a : V) : readV Tryd.prog H 62 a = loadK (some (false, 1)) (obOf H a) a := readV_K Tryd.shape62 H a
@[go_sem] theorem Tryd.sz62 : szOf Tryd.prog 62 = some 1 := by kernel_rfl
@[go_sem] theorem Tryd.bytes62 : bytesV Tryd.prog 62 = some 16 := by kernel_rfl
@[go_sem] theorem Tryd.agg62 : isAggB Tryd.prog 62 = some false := by kernel_rfl
@[go_sem] theorem Tryd.zero62 : zeroC Tryd.prog 62 = some [.nili] := by kernel_rfl
theorem Tryd.nk62 : nilKind Tryd.prog 62 = 4 := by kernel_rfl
@[go_sem] theorem Tryd.eqn62 (a : V) : binV Tryd.prog .eql 62 a .nili = (nilK 4 a).map .bool := (binV_nil _ _ Tryd.nk62 (by simp) a).1
@[go_sem] theorem Tryd.nen62 (a : V) : binV Tryd.prog .neq 62 a .nili = (nilK 4 a).map fun r => .bool (!r) := (binV_nil _ _ Tryd.nk62 (by simp) a).2
theorem Tryd.shape63 : shapeOf Tryd.prog 63 = some (false, 1) := by kernel_rfl
@[go_sem] theorem Tryd.load63 (H : Heap) (a : V) : readV Tryd.prog H 63 a = loadK (some (false, 1)) (obOf H a) a := readV_K Tryd.shape63 H a
@[go_sem] theorem Tryd.sz63 : szOf Tryd.prog 63 = some 1 := by kernel_rfl
@[go_sem] theorem Tryd.bytes63 : bytesV Tryd.prog 63 = some 16 := by kernel_rfl
@[go_sem] theorem Tryd.agg63 : isAggB Tryd.prog 63 = some false := by kernel_rfl
@[go_sem] theorem Tryd.zero63 : zeroC Tryd.prog 63 = some [.nili] := by kernel_rfl
theorem Tryd.nk63 : nilKind Tryd.prog 63 = 4 := by kernel_rfl
@[go_sem] theorem Tryd.eqn63 (a : V) : binV Tryd.prog .eql 63 a .nili = (nilK 4 a).map .bool := (binV_nil _ _ Tryd.nk63 (by simp) a).1
@[go_sem] theorem Tryd.nen63 (a : V) : binV Tryd.prog .neq 63 a .nili = (nilK 4 a).map fun r => .bool (!r) := (binV_nil _ _ Tryd.nk63 (by simp) a).2
theorem Tryd.shape64 : shapeOf Tryd.prog 64 = some (false, 1) := by kernel_rfl
@[go_sem] theorem Tryd.load64 (H : Heap) (a : V) : readV Tryd.prog H 64 a = loadK (some (false, 1)) (obOf H a) a := readV_K Tryd.shape64 H a
@[go_sem] theorem Tryd.sz64 : szOf Tryd.prog 64 = some 1 := by kernel_rfl
@[go_sem] theorem Tryd.bytes64 : bytesV Tryd.prog 64 = some 8 := by kernel_rfl
@[go_sem] theorem Tryd.agg64 : isAggB Tryd.prog 64 = some false := by kernel_rfl
@[go_sem] theorem Tryd.zero64 : zeroC Tryd.prog 64 = some [.nilf] := by kernel_rfl
theorem Tryd.nk64 : nilKind Tryd.prog 64 = 3 := by kernel_rfl
@[go_sem] theorem Tryd.eqn64 (a : V) : binV Tryd.prog .eql 64 a .nilf = (nilK 3 a).map .bool := (binV_nil _ _ Tryd.nk64 (by simp) a).1
@[go_sem] theorem Tryd.nen64 (a : V) : binV Tryd.prog .neq 64 a .nilf = (nilK 3 a).map fun r => .bool (!r) := (binV_nil _ _ Tryd.nk64 (by simp) a).2
theorem Tryd.shape65 : shapeOf Tryd.prog 65 = some (false, 1) := by kernel_rfl
@[go_sem] theorem Tryd.load65 (H : Heap) (a : V) : readV Tryd.prog H 65 a = loadK (some (false, 1)) (obOf H a) a := readV_K Tryd.shape65 H a
@[go_sem] theorem Tryd.sz65 : szOf Tryd.prog 65 = some 1 := by kernel_rfl
@[go_sem] theorem Tryd.bytes65 : bytesV Tryd.prog 65 = some 8 := by kernel_rfl
@[go_sem] theorem Tryd.agg65 : isAggB Tryd.prog 65 = some false := by kernel_rfl
@[go_sem] theorem Tryd.zero65 : zeroC Tryd.prog 65 = some [.nilf] := by kernel_rfl
theorem Tryd.nk65 : nilKind Tryd.prog 65 = 3 := by kernel_rfl
@[go_sem] theorem Tryd.eqn65 (a : V) : binV Tryd.prog .eql 65 a .nilf = (nilK 3 a).map .bool := (binV_nil _ _ Tryd.nk65 (by simp) a).1
@[go_sem] theorem Tryd.nen65 (a : V) : binV Tryd.prog .neq 65 a .nilf = (nilK 3 a).map fun r => .bool (!r) := (binV_nil _ _ Tryd.nk65 (by simp) a).2
theorem Tryd.shape67 : shapeOf Tryd.prog 67 = some (false, 1) := by kernel_rfl
@[go_sem] theorem Tryd.load67 (H : Heap) (a : V) : readV Tryd.prog H 67 a = loadK (some (false, 1)) (obOf H a) a := readV_K Tryd.shape67 H a
@[go_sem] theorem Tryd.sz67 : szOf Tryd.prog 67 = some 1 := by kernel_rfl
@[go_sem] theorem Tryd.bytes67 : bytesV Tryd.prog 67 = some 8 := by kernel_rfl
@[go_sem] theorem Tryd.agg67 : isAggB Tryd.prog 67 = some false := by kernel_rfl
@[go_sem] theorem Tryd.zero67 : zeroC Tryd.prog 67 = some [.nilf] := by kernel_rfl
theorem Tryd.nk67 : nilKind Tryd.prog 67 = 3 := by kernel_rfl
@[go_sem] theorem Tryd.eqn67 (a : V) : binV Tryd.prog .eql 67 a .nilf = (nilK 3 a).map .bool := (binV_nil _ _ Tryd.nk67 (by simp) a).1
@[go_sem] theorem Tryd.nen67 (a : V) : binV Tryd.prog .neq 67 a .nilf = (nilK 3 a).map fun r => .bool (!r) := (binV_nil _ _ Tryd.nk67 (by simp) a).2
theorem Tryd.shape68 : shapeOf Tryd.prog 68 = some (false, 1) := by kernel_rfl
@[go_sem] theorem Tryd.load68 (H : Heap) (a : V) : readV Tryd.prog H 68 a = loadK (some (false, 1)) (obOf H a) a := readV_K Tryd.shape68 H a
@[go_sem] theorem Tryd.sz68 : szOf Tryd.prog 68 = some 1 := by kernel_rfl
@[go_sem] theorem Tryd.bytes68 : bytesV Tryd.prog 68 = some 8 := by kernel_rfl
@[go_sem] theorem Tryd.agg68 : isAggB Tryd.prog 68 = some false := by kernel_rfl
@[go_sem] theorem Tryd.zero68 : zeroC Tryd.prog 68 = some [.nilf] := by kernel_rfl
theorem Tryd.nk68 : nilKind Tryd.prog 68 = 3 := by kernel_rfl
@[go_sem] theorem Tryd.eqn68 (a : V) : binV Tryd.prog .eql 68 a .nilf = (nilK 3 a).map .bool := (binV_nil _ _ Tryd.nk68 (by simp) a).1
@[go_sem] theorem Tryd.nen68 (a : V) : binV Tryd.prog .neq 68 a .nilf = (nilK 3 a).map fun r => .bool (!r) := (binV_nil _ _ Tryd.nk68 (by simp) a).2
theorem Tryd.shape69 : shapeOf Tryd.prog 69 = some (false, 1) := by kernel_rfl
@[go_sem] theorem Tryd.load69 (H : Heap) (a : V) : readV Tryd.prog H 69 a = loadK (some (false, 1)) (obOf H a) a := readV_K Tryd.shape69 H a
@[go_sem] theorem Tryd.sz69 : szOf Tryd.prog 69 = some 1 := by kernel_rfl
@[go_sem] theorem Tryd.bytes69 : bytesV Tryd.prog 69 = some 8 := by kernel_rfl
@[go_sem] theorem Tryd.agg69 : isAggB Tryd.prog 69 = some false := by kernel_rfl
@[go_sem] theorem Tryd.zero69 : zeroC Tryd.prog 69 = some [.nilf] := by kernel_rfl
theorem Tryd.nk69 : nilKind Tryd.prog 69 = 3 := by kernel_rfl
@[go_sem] theorem Tryd.eqn69 (a : V) : binV Tryd.prog .eql 69 a .nilf = (nilK 3 a).map .bool := (binV_nil _ _ Tryd.nk69 (by simp) a).1
@[go_sem] theorem Tryd.nen69 (a : V) : binV Tryd.prog .neq 69 a .nilf = (nilK 3 a).map fun r => .bool (!r) := (binV_nil _ _ Tryd.nk69 (by simp) a).2
theorem Tryd.shape70 : shapeOf Tryd.prog 70 = some (false, 1) := by kernel_rfl
@[go_sem] theorem Tryd.load70 (H : Heap) (a : V) : readV Tryd.prog H 70 a = loadK (some (false, 1)) (obOf H a) a := readV_K Tryd.shape70 H a
@[go_sem] theorem Tryd.sz70 : szOf Tryd.prog 70 = some 1 := by kernel_rfl
@[go_sem] theorem Tryd.bytes70 : bytesV Tryd.prog 70 = some 8 := by kernel_rfl
@[go_sem] theorem Tryd.agg70 : isAggB Tryd.prog 70 = some false := by kernel_rfl
@[go_sem] theorem Tryd.zero70 : zeroC Tryd.prog 70 = some [.int .u64 0] := by kernel_rfl
theorem Tryd.shape71 : shapeOf Tryd.prog 71 = some (false, 1) := by kernel_rfl
@[go_sem] theorem Tryd.load71 (H : Heap) (a : V) : readV Tryd.prog H 71 a = loadK (some (false, 1)) (obOf H a) a := readV_K Tryd.shape71 H a
@[go_sem] theorem Tryd.sz71 : szOf Tryd.prog 71 = some 1 := by kernel_rfl
@[go_sem] theorem Tryd.bytes71 : bytesV Tryd.prog 71 = some 8 := by kernel_rfl
@[go_sem] theorem Tryd.agg71 : isAggB Tryd.prog 71 = some false := by kernel_rfl
@[go_sem] theorem Tryd.zero71 : zeroC Tryd.prog 71 = some [.int .i64 0] := by kernel_rfl
theorem Tryd.shape73 : shapeOf Tryd.prog 73 = some (false, 1) := by kernel_rfl
@[go_sem] theorem Tryd.load73 (H : Heap) (a : V) : readV Tryd.prog H 73 a = loadK (some (false, 1)) (obOf H a) a := readV_K Tryd.shape73 H a
@[go_sem] theorem Tryd.sz73 : szOf Tryd.prog 73 = some 1 := by kernel_rfl
@[go_sem] theorem Tryd.bytes73 : bytesV Tryd.prog 73 = some 8 := by kernel_rfl
@[go_sem] theorem Tryd.agg73 : isAggB Tryd.prog 73 = some false := by kernel_rfl
@[go_sem] theorem Tryd.zero73 : zeroC Tryd.prog 73 = some [.nilf] := by kernel_rfl
theorem Tryd.nk73 : nilKind Tryd.prog 73 = 3 := by kernel_rfl
@[go_sem] theorem Tryd.eqn73 (a : V) : binV Tryd.prog .eql 73 a .nilf = (nilK 3 a).map .bool := (binV_nil _ _ Tryd.nk73 (by simp) a).1
@[go_sem] theorem Tryd.nen73 (a : V) : binV Tryd.prog .neq 73 a .nilf = (nilK 3 a).map fun r => .bool (!r) := (binV_nil _ _ Tryd.nk73 (by simp) a).2
theorem Tryd.shape74 : shapeOf Tryd.prog 74 = some (false, 1) := by kernel_rfl
@[go_sem] theorem Tryd.load74 (H : Heap) (a : V) : readV Tryd.prog H 74 a = loadK (some (false, 1)) (obOf H a) a := readV_K Tryd.shape74 H a
@[go_sem] theorem Tryd.sz74 : szOf Tryd.prog 74 = some 1 := by kernel_rfl
@[go_sem] theorem Tryd.bytes74 : bytesV Tryd.prog 74 = some 8 := by kernel_rfl
@[go_sem] theorem Tryd.agg74 : isAggB Tryd.prog 74 = some false := by kernel_rfl
@[go_sem] theorem Tryd.zero74 : zeroC Tryd.prog 74 = some [.nilp] := by kernel_rfl
theorem Tryd.nk74 : nilKind Tryd.prog 74 = 1 := by kernel_rfl
@[go_sem] theorem Tryd.eqn74 (a : V) : binV Tryd.prog .eql 74 a .nilp = (nilK 1 a).map .bool := (binV_nil _ _ Tryd.nk74 (by simp) a).1
@[go_sem] theorem Tryd.nen74 (a : V) : binV Tryd.prog .neq 74 a .nilp = (nilK 1 a).map fun r => .bool (!r) := (binV_nil _ _ Tryd.nk74 (by simp) a).2
theorem Tryd.shape75 : shapeOf Tryd.prog 75 = some (false, 1) := by kernel_rfl
@[go_sem] theorem Tryd.load75 (H : Heap) (a : V) : readV Tryd.prog H 75 a = loadK (some (false, 1)) (obOf H a) a := readV_K Tryd.shape75 H a
@[go_sem] theorem Tryd.sz75 : szOf Tryd.prog 75 = some 1 := by kernel_rfl
@[go_sem] theorem Tryd.bytes75 : bytesV Tryd.prog 75 = some 8 := by kernel_rfl
@[go_sem] theorem Tryd.agg75 : isAggB Tryd.prog 75 = some false := by kernel_rfl
@[go_sem] theorem Tryd.zero75 : zeroC Tryd.prog 75 = some [.nilf] := by kernel_rfl
theorem Tryd.nk75 : nilKind Tryd.prog 75 = 3 := by kernel_rfl
@[go_sem] theorem Tryd.eqn75 (a : V) : binV Tryd.prog .eql 75 a .nilf = (nilK 3 a).map .bool := (binV_nil _ _ Tryd.nk75 (by simp) a).1
@[go_sem] theorem Tryd.nen75 (a : V) : binV Tryd.prog .neq 75 a .nilf = (nilK 3 a).map fun r => .bool (!r) := (binV_nil _ _ Tryd.nk75 (by simp) a).2
theorem Tryd.shape76 : shapeOf Tryd.prog 76 = some (false, 1) := by kernel_rfl
@[go_sem] theorem Tryd.load76 (H : Heap) (a : V) : readV Tryd.prog H 76 a = loadK (some (false, 1)) (obOf H a) a := readV_K Tryd.shape76 H a
@[go_sem] theorem Tryd.sz76 : szOf Tryd.prog 76 = some 1 := by kernel_rfl
@[go_sem] theorem Tryd.bytes76 : bytesV Tryd.prog 76 = some 8 := by kernel_rfl
@[go_sem] theorem Tryd.agg76 : isAggB Tryd.prog 76 = some false := by kernel_rfl
@[go_sem] theorem Tryd.zero76 : zeroC Tryd.prog 76 = some [.nilf] := by kernel_rfl
theorem Tryd.nk76 : nilKind Tryd.prog 76 = 3 := by kernel_rfl
@[go_sem] theorem Tryd.eqn76 (a : V) : binV Tryd.prog .eql 76 a .nilf = (nilK 3 a).map .bool := (binV_nil _ _ Tryd.nk76 (by simp) a).1
@[go_sem] theorem Tryd.nen76 (a : V) : binV Tryd.prog .neq 76 a .nilf = (nilK 3 a).map fun r => .bool (!r) := (binV_nil _ _ Tryd.nk76 (by simp) a).2
theorem Tryd.shape77 : shapeOf Tryd.prog 77 = some (true, 1) := by kernel_rfl
@[go_sem] theorem Tryd.load77 (H : Heap) (a : V) : readV Tryd.prog H 77 a = loadK (some (true, 1)) (obOf H a) a := readV_K Tryd.shape77 H a
@[go_sem] theorem Tryd.sz77 : szOf Tryd.prog 77 = some 1 := by kernel_rfl
@[go_sem] theorem Tryd.bytes77 : bytesV Tryd.prog 77 = some 8 := by kernel_rfl
@[go_sem] theorem Tryd.agg77 : isAggB Tryd.prog 77 = some true := by kernel_rfl
@[go_sem] theorem Tryd.zero77 : zeroC Tryd.prog 77 = some [.nilp] := by kernel_rfl
theorem Tryd.zeroV77 : zeroV Tryd.prog 77 = some (.agg [.nilp]) := by kernel_rfl
@[go_sem] theorem Tryd.bld77 (l : List (Nat × V)) : buildV Tryd.prog 77 l = (fillV (tblP [(0, 1)]) [.nilp] l).map .agg := buildV_K (P := Tryd.prog) (t := 77) (tbl := [(0, 1)]) (z := [.nilp]) (by kernel_rfl) (by kernel_rfl) l
theorem Tryd.fld77_0 : fldOf Tryd.prog 77 0 = some (0, false, 1) := by kernel_rfl
@[go_sem] theorem Tryd.fa77_0 (a : V) : fieldAddrV Tryd.prog 77 a 0 = fldK (some (0, false, 1)) a := fieldAddrV_K Tryd.fld77_0 a
@[go_sem] theorem Tryd.fv77_0 (l : List V) : fieldV Tryd.prog 77 (.agg l) 0 = partC false 1 l 0 := fieldV_K Tryd.fld77_0 l
theorem Tryd.shape78 : shapeOf Tryd.prog 78 = some (true, 1) := by kernel_rfl
@[go_sem] theorem Tryd.load78 (H : Heap) (a : V) : readV Tryd.prog H 78 a = loadK (some (true, 1)) (obOf H a) a := readV_K Tryd.shape78 H a
@[go_sem] theorem Tryd.sz78 : szOf Tryd.prog 78 = some 1 := by kernel_rfl
@[go_sem] theorem Tryd.bytes78 : bytesV Tryd.prog 78 = some 8 := by kernel_rfl
@[go_sem] theorem Tryd.agg78 : isAggB Tryd.prog 78 = some true := by kernel_rfl
@[go_sem] theorem Tryd.zero78 : zeroC Tryd.prog 78 = some [.nilp] := by kernel_rfl
theorem Tryd.zeroV78 : zeroV Tryd.prog 78 = some (.agg [.nilp]) := by kernel_rfl
@[go_sem] theorem Tryd.bld78 (l : List (Nat × V)) : buildV Tryd.prog 78 l = (fillV (tblP [(0, 1)]) [.nilp] l).map .agg := buildV_K (P := Tryd.prog) (t := 78) (tbl := [(0, 1)]) (z := [.nilp]) (by kernel_rfl) (by kernel_rfl) l
theorem Tryd.fld78_0 : fldOf Tryd.prog 78 0 = some (0, false, 1) := by kernel_rfl
@[go_sem] theorem Tryd.fa78_0 (a : V) : fieldAddrV Tryd.prog 78 a 0 = fldK (some (0, false, 1)) a := fieldAddrV_K Tryd.fld78_0 a
@[go_sem] theorem Tryd.fv78_0 (l : List V) : fieldV Tryd.prog 78 (.agg l) 0 = partC false 1 l 0 := fieldV_K Tryd.fld78_0 l
theorem Tryd.shape79 : shapeOf Tryd.prog 79 = some (false, 1) := by kernel_rfl
@[go_sem] theorem Tryd.load79 (H : Heap) (a : V) : readV Tryd.prog H 79 a = loadK (some (false, 1)) (obOf H a) a := readV_K Tryd.shape79 H a
@[go_sem] theorem Tryd.sz79 : szOf Tryd.prog 79 = some 1 := by kernel_rfl
@[go_sem] theorem Tryd.bytes79 : bytesV Tryd.prog 79 = some 8 := by kernel_rfl
@[go_sem] theorem Tryd.agg79 : isAggB Tryd.prog 79 = some false := by kernel_rfl
@[go_sem] theorem Tryd.zero79 : zeroC Tryd.prog 79 = some [.nilp] := by kernel_rfl
theorem Tryd.nk79 : nilKind Tryd.prog 79 = 1 := by kernel_rfl
@[go_sem] theorem Tryd.eqn79 (a : V) : binV Tryd.prog .eql 79 a .nilp = (nilK 1 a).map .bool := (binV_nil _ _ Tryd.nk79 (by simp) a).1
@[go_sem] theorem Tryd.nen79 (a : V) : binV Tryd.prog .neq 79 a .nilp = (nilK 1 a).map fun r => .bool (!r) := (binV_nil _ _ Tryd.nk79 (by simp) a).2
theorem Tryd.shape80 : shapeOf Tryd.prog 80 = some (false, 1) := by kernel_rfl
@[go_sem] theorem Tryd.load80 (H : Heap) (a : V) : readV Tryd.prog H 80 a = loadK (some (false, 1)) (obOf H a) a := readV_K Tryd.shape80 H a
@[go_sem] theorem Tryd.sz80 : szOf Tryd.prog 80 = some 1 := by kernel_rfl
@[go_sem] theorem Tryd.bytes80 : bytesV Tryd.prog 80 = some 16 := by kernel_rfl
@[go_sem] theorem Tryd.agg80 : isAggB Tryd.prog 80 = some false := by kernel_rfl
@[go_sem] theorem Tryd.zero80 : zeroC Tryd.prog 80 = some [.nili] := by kernel_rfl
theorem Tryd.nk80 : nilKind Tryd.prog 80 = 4 := by kernel_rfl
@[go_sem] theorem Tryd.eqn80 (a : V) : binV Tryd.prog .eql 80 a .nili = (nilK 4 a).map .bool := (binV_nil _ _ Tryd.nk80 (by simp) a).1
@[go_sem] theorem Tryd.nen80 (a : V) : binV Tryd.prog .neq 80 a .nili = (nilK 4 a).map fun r => .bool (!r) := (binV_nil _ _ Tryd.nk80 (by simp) a).2
theorem Tryd.shape82 : shapeOf Tryd.prog 82 = some (false, 1) := by kernel_rfl
@[go_sem] theorem Tryd.load82 (H : Heap) (a : V) : readV Tryd.prog H 82 a = loadK (some (false, 1)) (obOf H a) a := readV_K Tryd.shape82 H a
@[go_sem] theorem Tryd.sz82 : szOf Tryd.prog 82 = some 1 := by kernel_rfl
@[go_sem] theorem Tryd.bytes82 : bytesV Tryd.prog 82 = some 8 := by kernel_rfl
@[go_sem] theorem Tryd.agg82 : isAggB Tryd.prog 82 = some false := by kernel_rfl
@[go_sem] theorem Tryd.zero82 : zeroC Tryd.prog 82 = some [.nilf] := by kernel_rfl
theorem Tryd.nk82 : nilKind Tryd.prog 82 = 3 := by kernel_rfl
@[go_sem] theorem Tryd.eqn82 (a : V) : binV Tryd.prog .eql 82 a .nilf = (nilK 3 a).map .bool := (binV_nil _ _ Tryd.nk82 (by simp) a).1
@[go_sem] theorem Tryd.nen82 (a : V) : binV Tryd.prog .neq 82 a .nilf = (nilK 3 a).map fun r => .bool (!r) := (binV_nil _ _ Tryd.nk82 (by simp) a).2
theorem Tryd.shape83 : shapeOf Tryd.prog 83 = some (false, 1) := by kernel_rfl
@[go_sem] theorem Tryd.load83 (H : Heap) (a : V) : readV Tryd.prog H 83 a = loadK (some (false, 1)) (obOf H a) a := readV_K Tryd.shape83 H a
@[go_sem] theorem Tryd.sz83 : szOf Tryd.prog 83 = some 1 := by kernel_rfl
@[go_sem] theorem Tryd.bytes83 : bytesV Tryd.prog 83 = some 16 := by kernel_rfl
@[go_sem] theorem Tryd.agg83 : isAggB Tryd.prog 83 = some false := by kernel_rfl
@[go_sem] theorem Tryd.zero83 : zeroC Tryd.prog 83 = some [.nili] := by kernel_rfl
theorem Tryd.nk83 : nilKind Tryd.prog 83 = 4 := by kernel_rfl
@[go_sem] theorem Tryd.eqn83 (a : V) : binV Tryd.prog .eql 83 a .nili = (nilK 4 a).map .bool := (binV_nil _ _ Tryd.nk83 (by simp) a).1
@[go_sem] theorem Tryd.nen83 (a : V) : binV Tryd.prog .neq 83 a .nili = (nilK 4 a).map fun r => .bool (!r) := (binV_nil _ _ Tryd.nk83 (by simp) a).2
theorem Tryd.shape84 : shapeOf Tryd.prog 84 = some (false, 1) := by kernel_rfl
@[go_sem] theorem Tryd.load84 (H : Heap) (a : V) : readV Tryd.prog H 84 a = loadK (some (false, 1)) (obOf H a) a := readV_K Tryd.shape84 H a
@[go_sem] theorem Tryd.sz84 : szOf Tryd.prog 84 = some 1 := by kernel_rfl
@[go_sem] theorem Tryd.bytes84 : bytesV Tryd.prog 84 = some 8 := by kernel_rfl
@[go_sem] theorem Tryd.agg84 : isAggB Tryd.prog 84 = some false := by kernel_rfl
@[go_sem] theorem Tryd.zero84 : zeroC Tryd.prog 84 = some [.nilf] := by kernel_rfl
theorem Tryd.nk84 : nilKind Tryd.prog 84 = 3 := by kernel_rfl
@[go_sem] theorem Tryd.eqn84 (a : V) : binV Tryd.prog .eql 84 a .nilf = (nilK 3 a).map .bool := (binV_nil _ _ Tryd.nk84 (by simp) a).1
@[go_sem] theorem Tryd.nen84 (a : V) : binV Tryd.prog .neq 84 a .nilf = (nilK 3 a).map fun r => .bool (!r) := (binV_nil _ _ Tryd.nk84 (by simp) a).2
theorem Tryd.shape85 : shapeOf Tryd.prog 85 = some (false, 1) := by kernel_rfl
@[go_sem] theorem Tryd.load85 (H : Heap) (a : V) : readV Tryd.prog H 85 a = loadK (some (false, 1)) (obOf H a) a := readV_K Tryd.shape85 H a
@[go_sem] theorem Tryd.sz85 : szOf Tryd.prog 85 = some 1 := by kernel_rfl
@[go_sem] theorem Tryd.bytes85 : bytesV Tryd.prog 85 = some 16 := by kernel_rfl
@[go_sem] theorem Tryd.agg85 : isAggB Tryd.prog 85 = some false := by kernel_rfl
@[go_sem] theorem Tryd.zero85 : zeroC Tryd.prog 85 = some [.nili] := by kernel_rfl
theorem Tryd.nk85 : nilKind Tryd.prog 85 = 4 := by kernel_rfl
@[go_sem] theorem Tryd.eqn85 (a : V) : binV Tryd.prog .eql 85 a .nili = (nilK 4 a).map .bool := (binV_nil _ _ Tryd.nk85 (by simp) a).1
@[go_sem] theorem Tryd.nen85 (a : V) : binV Tryd.prog .neq 85 a .nili = (nilK 4 a).map fun r => .bool (!r) := (binV_nil _ _ Tryd.nk85 (by simp) a).2
theorem Tryd.shape86 : shapeOf Tryd.prog 86 = some (false, 1) := by kernel_rfl
@[go_sem] theorem Tryd.load86 (H : Heap) (a : V) : readV Tryd.prog H 86 a = loadK (some (false, 1)) (obOf H a) a := readV_K Tryd.shape86 H a
@[go_sem] theorem Tryd.sz86 : szOf Tryd.prog 86 = some 1 := by kernel_rfl
@[go_sem] theorem Tryd.bytes86 : bytesV Tryd.prog 86 = some 24 := by kernel_rfl
@[go_sem] theorem Tryd.agg86 : isAggB Tryd.prog 86 = some false := by kernel_rfl
@[go_sem] theorem Tryd.zero86 : zeroC Tryd.prog 86 = some [.nils] := by kernel_rfl
theorem Tryd.nk86 : nilKind Tryd.prog 86 = 2 := by kernel_rfl
@[go_sem] theorem Tryd.eqn86 (a : V) : binV Tryd.prog .eql 86 a .nils = (nilK 2 a).map .bool := (binV_nil _ _ Tryd.nk86 (by simp) a).1
@[go_sem] theorem Tryd.nen86 (a : V) : binV Tryd.prog .neq 86 a .nils = (nilK 2 a).map fun r => .bool (!r) := (binV_nil _ _ Tryd.nk86 (by simp) a).2
theorem Tryd.elem86 : elemOf Tryd.prog 86 = some 1 := by kernel_rfl
@[go_sem] theorem Tryd.idx86 (a i : V) : indexAddrV Tryd.prog 86 a i = idxK (some 1) a i := indexAddrV_K Tryd.elem86 a i
@[go_sem] theorem Tryd.len86 (a : V) : lenV Tryd.prog 86 a = lenK true a := lenV_slice Tryd.elem86 a
@[go_sem] theorem Tryd.sl86 (a : V) (lo hi : Option V) : sliceV Tryd.prog 86 a lo hi none = slK 1 a lo hi := sliceV_K Tryd.elem86 a lo hi
@[go_sem] theorem Tryd.bs86 (n : Nat) (l : List (Nat × V)) : bsCells Tryd.prog 86 n l = bsK 1 [.nili] n l := bsCells_K (P := Tryd.prog) (t := 86) (e := 39) (m := 1) (z := [.nili]) (by kernel_rfl) (by kernel_rfl) (by kernel_rfl) rfl n l
@[go_sem] theorem Tryd.ms86 (a b : V) : msCells Tryd.prog 86 a b = msK 1 16 [.nili] a b := msCells_K (P := Tryd.prog) (t := 86) (e := 39) (E := 1) (bytes := 16) (z := [.nili]) (by kernel_rfl) (by kernel_rfl) (by kernel_rfl) (by kernel_rfl) rfl a b
theorem Tryd.app86 : appOf Tryd.prog [86, 86] = some (1, 16) := by kernel_rfl
@[go_sem] theorem Tryd.appc86 (E : Ent) (ops : Array Oper) (Q : AS → Prop) (rest : List Oper) (e : Nat) (τ : Nat → V) (H : Heap) (a b : V) : appC Tryd.prog E ops Q rest e τ H [86, 86] a b = appE Tryd.prog E ops Q rest e τ H 1 16 a (srcCells H 1 b) (obS H a) := appC_E ops Tryd.app86 e a b
theorem Tryd.shape87 : shapeOf Tryd.prog 87 = some (false, 1) := by kernel_rfl
@[go_sem] theorem Tryd.load87 (H : Heap) (a : V) : readV Tryd.prog H 87 a = loadK (some (false, 1)) (obOf H a) a := readV_K Tryd.shape87 H a
@[go_sem] theorem Tryd.sz87 : szOf Tryd.prog 87 = some 1 := by kernel_rfl
@[go_sem] theorem Tryd.bytes87 : bytesV Tryd.prog 87 = some 8 := by kernel_rfl
@[go_sem] theorem Tryd.agg87 : isAggB Tryd.prog 87 = some false := by kernel_rfl
@[go_sem] theorem Tryd.zero87 : zeroC Tryd.prog 87 = some [.nilf] := by kernel_rfl
theorem Tryd.nk87 : nilKind Tryd.prog 87 = 3 := by kernel_rfl
@[go_sem] theorem Tryd.eqn87 (a : V) : binV Tryd.prog .eql 87 a .nilf = (nilK 3 a).map .bool := (binV_nil _ _ Tryd.nk87 (by simp) a).1
@[go_sem] theorem Tryd.nen87 (a : V) : binV Tryd.prog .neq 87 a .nilf = (nilK 3 a).map fun r => .bool (!r) := (binV_nil _ _ Tryd.nk87 (by simp) a).2
theorem Tryd.shape88 : shapeOf Tryd.prog 88 = some (false, 1) := by kernel_rfl
@[go_sem] theorem Tryd.load88 (H : Heap) (a : V) : readV Tryd.prog H 88 a = loadK (some (false, 1)) (obOf H a) a := readV_K Tryd.shape88 H a
@[go_sem] theorem Tryd.sz88 : szOf Tryd.prog 88 = some 1 := by kernel_rfl
@[go_sem] theorem Tryd.bytes88 : bytesV Tryd.prog 88 = some 8 := by kernel_rfl
@[go_sem] theorem Tryd.agg88 : isAggB Tryd.prog 88 = some false := by kernel_rfl
@[go_sem] theorem Tryd.zero88 : zeroC Tryd.prog 88 = some [.nilf] := by kernel_rfl
theorem Tryd.nk88 : nilKind Tryd.prog 88 = 3 := by kernel_rfl
@[go_sem] theorem Tryd.eqn88 (a : V) : binV Tryd.prog .eql 88 a .nilf = (nilK 3 a).map .bool := (binV_nil _ _ Tryd.nk88 (by simp) a).1
@[go_sem] theorem Tryd.nen88 (a : V) : binV Tryd.prog .neq 88 a .nilf = (nilK 3 a).map fun r => .bool (!r) := (binV_nil _ _ Tryd.nk88 (by simp) a).2
theorem Tryd.shape89 : shapeOf Tryd.prog 89 = some (true, 24) := by kernel_rfl
@[go_sem] theorem Tryd.load89 (H : Heap) (a : V) : readV Tryd.prog H 89 a = loadK (some (true, 24)) (obOf H a) a := readV_K Tryd.shape89 H a
@[go_sem] theorem Tryd.sz89 : szOf Tryd.prog 89 = some 24 := by kernel_rfl
@[go_sem] theorem Tryd.bytes89 : bytesV Tryd.prog 89 = some 24 := by kernel_rfl
@[go_sem] theorem Tryd.agg89 : isAggB Tryd.prog 89 = some true := by kernel_rfl
@[go_sem] theorem Tryd.zero89 : zeroC Tryd.prog 89 = some [.int .u8 0, .int .u8 0, .int .u8 0, .int .u8 0, .int .u8 0, .int .u8 0, .int .u8 0, .int .u8 0, .int .u8 0, .int .u8 0, .int .u8 0, .int .u8 0, .int .u8 0, .int .u8 0, .int .u8 0, .int .u8 0, .int .u8 0, .int .u8 0, .int .u8 0, .int .u8 0, .int .u8 0, .int .u8 0, .int .u8 0, .int .u8 0] := by kernel_rfl
theorem Tryd.zeroV89 : zeroV Tryd.prog 89 = some (.agg [.int .u8 0, .int .u8 0, .int .u8 0, .int .u8 0, .int .u8 0, .int .u8 0, .int .u8 0, .int .u8 0, .int .u8 0, .int .u8 0, .int .u8 0, .int .u8 0, .int .u8 0, .int .u8 0, .int .u8 0, .int .u8 0, .int .u8 0, .int .u8 0, .int .u8 0, .int .u8 0, .int .u8 0, .int .u8 0, .int .u8 0, .int .u8 0]) := by kernel_rfl
theorem Tryd.shape90 : shapeOf Tryd.prog 90 = some (false, 1) := by kernel_rfl
@[go_sem] theorem Tryd.load90 (H : Heap) (a : V) : readV Tryd.prog H 90 a = loadK (some (false, 1)) (obOf H a) a := readV_K Tryd.shape90 H a
@[go_sem] theorem Tryd.sz90 : szOf Tryd.prog 90 = some 1 := by kernel_rfl
@[go_sem] theorem Tryd.bytes90 : bytesV Tryd.prog 90 = some 8 := by kernel_rfl
@[go_sem] theorem Tryd.agg90 : isAggB Tryd.prog 90 = some false := by kernel_rfl
@[go_sem] theorem Tryd.zero90 : zeroC Tryd.prog 90 = some [.nilf] := by kernel_rfl
theorem Tryd.nk90 : nilKind Tryd.prog 90 = 3 := by kernel_rfl
@[go_sem] theorem Tryd.eqn90 (a : V) : binV Tryd.prog .eql 90 a .nilf = (nilK 3 a).map .bool := (binV_nil _ _ Tryd.nk90 (by simp) a).1
@[go_sem] theorem Tryd.nen90 (a : V) : binV Tryd.prog .neq 90 a .nilf = (nilK 3 a).map fun r => .bool (!r) := (binV_nil _ _ Tryd.nk90 (by simp) a).2
theorem Tryd.shape91 : shapeOf Tryd.prog 91 = some (false, 1) := by kernel_rfl
@[go_sem] theorem Tryd.load91 (H : Heap) (a : V) : readV Tryd.prog H 91 a = loadK (some (false, 1)) (obOf H a) a := readV_K Tryd.shape91 H a
@[go_sem] theorem Tryd.sz91 : szOf Tryd.prog 91 = some 1 := by kernel_rfl
@[go_sem] theorem Tryd.bytes91 : bytesV Tryd.prog 91 = some 8 := by kernel_rfl
@[go_sem] theorem Tryd.agg91 : isAggB Tryd.prog 91 = some false := by kernel_rfl
@[go_sem] theorem Tryd.zero91 : zeroC Tryd.prog 91 = some [.nilf] := by kernel_rfl
theorem Tryd.nk91 : nilKind Tryd.prog 91 = 3 := by kernel_rfl
@[go_sem] theorem Tryd.eqn91 (a : V) : binV Tryd.prog .eql 91 a .nilf = (nilK 3 a).map .bool := (binV_nil _ _ Tryd.nk91 (by simp) a).1
@[go_sem] theorem Tryd.nen91 (a : V) : binV Tryd.prog .neq 91 a .nilf = (nilK 3 a).map fun r => .bool (!r) := (binV_nil _ _ Tryd.nk91 (by simp) a).2
theorem Tryd.shape93 : shapeOf Tryd.prog 93 = some (false, 1) := by kernel_rfl
@[go_sem] theorem Tryd.load93 (H : Heap) (a : V) : readV Tryd.prog H 93 a = loadK (some (false, 1)) (obOf H a) a := readV_K Tryd.shape93 H a
@[go_sem] theorem Tryd.sz93 : szOf Tryd.prog 93 = some 1 := by kernel_rfl
@[go_sem] theorem Tryd.bytes93 : bytesV Tryd.prog 93 = some 8 := by kernel_rfl
@[go_sem] theorem Tryd.agg93 : isAggB Tryd.prog 93 = some false := by kernel_rfl
@[go_sem] theorem Tryd.zero93 : zeroC Tryd.prog 93 = some [.nilf] := by kernel_rfl
theorem Tryd.nk93 : nilKind Tryd.prog 93 = 3 := by kernel_rfl
@[go_sem] theorem Tryd.eqn93 (a : V) : binV Tryd.prog .eql 93 a .nilf = (nilK 3 a).map .bool := (binV_nil _ _ Tryd.nk93 (by simp) a).1
@[go_sem] theorem Tryd.nen93 (a : V) : binV Tryd.prog .neq 93 a .nilf = (nilK 3 a).map fun r => .bool (!r) := (binV_nil _ _ Tryd.nk93 (by simp) a).2
theorem Tryd.shape94 : shapeOf Tryd.prog 94 = some (false, 1) := by kernel_rfl
@[go_sem] theorem Tryd.load94 (H : Heap) (a : V) : readV Tryd.prog H 94 a = loadK (some (false, 1)) (obOf H a) a := readV_K Tryd.shape94 H a
@[go_sem] theorem Tryd.sz94 : szOf Tryd.prog 94 = some 1 := by kernel_rfl
@[go_sem] theorem Tryd.bytes94 : bytesV Tryd.prog 94 = some 8 := by kernel_rfl
@[go_sem] theorem Tryd.agg94 : isAggB Tryd.prog 94 = some false := by kernel_rfl
@[go_sem] theorem Tryd.zero94 : zeroC Tryd.prog 94 = some [.nilf] := by kernel_rfl
theorem Tryd.nk94 : nilKind Tryd.prog 94 = 3 := by kernel_rfl
@[go_sem] theorem Tryd.eqn94 (a : V) : binV Tryd.prog .eql 94 a .nilf = (nilK 3 a).map .bool := (binV_nil _ _ Tryd.nk94 (by simp) a).1
@[go_sem] theorem Tryd.nen94 (a : V) : binV Tryd.prog .neq 94 a .nilf = (nilK 3 a).map fun r => .bool (!r) := (binV_nil _ _ Tryd.nk94 (by simp) a).2
theorem Tryd.shape95 : shapeOf Tryd.prog 95 = some (false, 1) := by kernel_rfl
@[go_sem] theorem Tryd.load95 (H : Heap) (a : V) : readV Tryd.prog H 95 a = loadK (some (false, 1)) (obOf H a) a := readV_K Tryd.shape95 H a
@[go_sem] theorem Tryd.sz95 : szOf Tryd.prog 95 = some 1 := by kernel_rfl
@[go_sem] theorem Tryd.bytes95 : bytesV Tryd.prog 95 = some 8 := by kernel_rfl
@[go_sem] theorem Tryd.agg95 : isAggB Tryd.prog 95 = some false := by kernel_rfl
@[go_sem] theorem Tryd.zero95 : zeroC Tryd.prog 95 = some [.nilf] := by kernel_rfl
theorem Tryd.nk95 : nilKind Tryd.prog 95 = 3 := by kernel_rfl
@[go_sem] theorem Tryd.eqn95 (a : V) : binV Tryd.prog .eql 95 a .nilf = (nilK 3 a).map .bool := (binV_nil _ _ Tryd.nk95 (by simp) a).1
@[go_sem] theorem Tryd.nen95 (a : V) : binV Tryd.prog .neq 95 a .nilf = (nilK 3 a).map fun r => .bool (!r) := (binV_nil _ _ Tryd.nk95 (by simp) a).2
theorem Tryd.shape96 : shapeOf Tryd.prog 96 = some (false, 1) := by kernel_rfl
@[go_sem] theorem Tryd.load96 (H : Heap) (a : V) : readV Tryd.prog H 96 a = loadK (some (false, 1)) (obOf H a) a := readV_K Tryd.shape96 H a
@[go_sem] theorem Tryd.sz96 : szOf Tryd.prog 96 = some 1 := by kernel_rfl
@[go_sem] theorem Tryd.bytes96 : bytesV Tryd.prog 96 = some 8 := by kernel_rfl
@[go_sem] theorem Tryd.agg96 : isAggB Tryd.prog 96 = some false := by kernel_rfl
@[go_sem] theorem Tryd.zero96 : zeroC Tryd.prog 96 = some [.nilf] := by kernel_rfl
theorem Tryd.nk96 : nilKind Tryd.prog 96 = 3 := by kernel_rfl
@[go_sem] theorem Tryd.eqn96 (a : V) : binV Tryd.prog .eql 96 a .nilf = (nilK 3 a).map .bool := (binV_nil _ _ Tryd.nk96 (by simp) a).1
@[go_sem] theorem Tryd.nen96 (a : V) : binV Tryd.prog .neq 96 a .nilf = (nilK 3 a).map fun r => .bool (!r) := (binV_nil _ _ Tryd.nk96 (by simp) a).2
theorem Tryd.shape97 : shapeOf Tryd.prog 97 = some (false, 1) := by kernel_rfl
@[go_sem] theorem Tryd.load97 (H : Heap) (a : V) : readV Tryd.prog H 97 a = loadK (some (false, 1)) (obOf H a) a := readV_K Tryd.shape97 H a
@[go_sem] theorem Tryd.sz97 : szOf Tryd.prog 97 = some 1 := by kernel_rfl
@[go_sem] theorem Tryd.bytes97 : bytesV Tryd.prog 97 = some 8 := by kernel_rfl
@[go_sem] theorem Tryd.agg97 : isAggB Tryd.prog 97 = some false := by kernel_rfl
@[go_sem] theorem Tryd.zero97 : zeroC Tryd.prog 97 = some [.nilf] := by kernel_rfl
theorem Tryd.nk97 : nilKind Tryd.prog 97 = 3 := by kernel_rfl
@[go_sem] theorem Tryd.eqn97 (a : V) : binV Tryd.prog .eql 97 a .nilf = (nilK 3 a).map .bool := (binV_nil _ _ Tryd.nk97 (by simp) a).1
@[go_sem] theorem Tryd.nen97 (a : V) : binV Tryd.prog .neq 97 a .nilf = (nilK 3 a).map fun r => .bool (!r) := (binV_nil _ _ Tryd.nk97 (by simp) a).2
theorem Tryd.shape98 : shapeOf Tryd.prog 98 = some (true, 3) := by kernel_rfl
@[go_sem] theorem Tryd.load98 (H : Heap) (a : V) : readV Tryd.prog H 98 a = loadK (some (true, 3)) (obOf H a) a := readV_K Tryd.shape98 H a
@[go_sem] theorem Tryd.sz98 : szOf Tryd.prog 98 = some 3 := by kernel_rfl
@[go_sem] theorem Tryd.bytes98 : bytesV Tryd.prog 98 = some 48 := by kernel_rfl
@[go_sem] theorem Tryd.agg98 : isAggB Tryd.prog 98 = some true := by kernel_rfl
@[go_sem] theorem Tryd.zero98 : zeroC Tryd.prog 98 = some [.str [], .str [], .nili] := by kernel_rfl
theorem Tryd.zeroV98 : zeroV Tryd.prog 98 = some (.agg [.str [], .str [], .nili]) := by kernel_rfl
@[go_sem] theorem Tryd.bld98 (l : List (Nat × V)) : buildV Tryd.prog 98 l = (fillV (tblP [(0, 1), (1, 1), (2, 1)]) [.str [], .str [], .nili] l).map .agg := buildV_K (P := Tryd.prog) (t := 98) (tbl := [(0, 1), (1, 1), (2, 1)]) (z := [.str [], .str [], .nili]) (by kernel_rfl) (by kernel_rfl) l
theorem Tryd.fld98_0 : fldOf Tryd.prog 98 0 = some (0, false, 1) := by kernel_rfl
@[go_sem] theorem Tryd.fa98_0 (a : V) : fieldAddrV Tryd.prog 98 a 0 = fldK (some (0, false, 1)) a := fieldAddrV_K Tryd.fld98_0 a
@[go_sem] theorem Tryd.fv98_0 (l : List V) : fieldV Tryd.prog 98 (.agg l) 0 = partC false 1 l 0 := fieldV_K Tryd.fld98_0 l
theorem Tryd.fld98_1 : fldOf Tryd.prog 98 1 = some (1, false, 1) := by kernel_rfl
@[go_sem] theorem Tryd.fa98_1 (a : V) : fieldAddrV Tryd.prog 98 a 1 = fldK (some (1, false, 1)) a := fieldAddrV_K Tryd.fld98_1 a
@[go_sem] theorem Tryd.fv98_1 (l : List V) : fieldV Tryd.prog 98 (.agg l) 1 = partC false 1 l 1 := fieldV_K Tryd.fld98_1 l
theorem Tryd.fld98_2 : fldOf Tryd.prog 98 2 = some (2, false, 1) := by kernel_rfl
@[go_sem] theorem Tryd.fa98_2 (a : V) : fieldAddrV Tryd.prog 98 a 2 = fldK (some (2, false, 1)) a := fieldAddrV_K Tryd.fld98_2 a
@[go_sem] theorem Tryd.fv98_2 (l : List V) : fieldV Tryd.prog 98 (.agg l) 2 = partC false 1 l 2 := fieldV_K Tryd.fld98_2 l
theorem Tryd.shape99 : shapeOf Tryd.prog 99 = some (true, 3) := by kernel_rfl
@[go_sem] theorem Tryd.load99 (H : Heap) (a : V) : readV Tryd.prog H 99 a = loadK (some (true, 3)) (obOf H a) a := readV_K Tryd.shape99 H a
@[go_sem] theorem Tryd.sz99 : szOf Tryd.prog 99 = some 3 := by kernel_rfl
@[go_sem] theorem Tryd.bytes99 : bytesV Tryd.prog 99 = some 48 := by kernel_rfl
@[go_sem] theorem Tryd.agg99 : isAggB Tryd.prog 99 = some true := by kernel_rfl
@[go_sem] theorem Tryd.zero99 : zeroC Tryd.prog 99 = some [.str [], .str [], .nili] := by kernel_rfl
theorem Tryd.zeroV99 : zeroV Tryd.prog 99 = some (.agg [.str [], .str [], .nili]) := by kernel_rfl
@[go_sem] theorem Tryd.bld99 (l : List (Nat × V)) : buildV Tryd.prog 99 l = (fillV (tblP [(0, 1), (1, 1), (2, 1)]) [.str [], .str [], .nili] l).map .agg := buildV_K (P := Tryd.prog) (t := 99) (tbl := [(0, 1), (1, 1), (2, 1)]) (z := [.str [], .str [], .nili]) (by kernel_rfl) (by kernel_rfl) l
theorem Tryd.fld99_0 : fldOf Tryd.prog 99 0 = some (0, false, 1) := by kernel_rfl
@[go_sem] theorem Tryd.fa99_0 (a : V) : fieldAddrV Tryd.prog 99 a 0 = fldK (some (0, false, 1)) a := fieldAddrV_K Tryd.fld99_0 a
@[go_sem] theorem Tryd.fv99_0 (l : List V) : fieldV Tryd.prog 99 (.agg l) 0 = partC false 1 l 0 := fieldV_K Tryd.fld99_0 l
theorem Tryd.fld99_1 : fldOf Tryd.prog 99 1 = some (1, false, 1) := by kernel_rfl
@[go_sem] theorem Tryd.fa99_1 (a : V) : fieldAddrV Tryd.prog 99 a 1 = fldK (some (1, false, 1)) a := fieldAddrV_K Tryd.fld99_1 a
@[go_sem] theorem Tryd.fv99_1 (l : List V) : fieldV Tryd.prog 99 (.agg l) 1 = partC false 1 l 1 := fieldV_K Tryd.fld99_1 l
theorem Tryd.fld99_2 : fldOf Tryd.prog 99 2 = some (2, false, 1) := by kernel_rfl
@[go_sem] theorem Tryd.fa99_2 (a : V) : fieldAddrV Tryd.prog 99 a 2 = fldK (some (2, false, 1)) a := fieldAddrV_K Tryd.fld99_2 a
@[go_sem] theorem Tryd.fv99_2 (l : List V) : fieldV Tryd.prog 99 (.agg l) 2 = partC false 1 l 2 := fieldV_K Tryd.fld99_2 l
theorem Tryd.shape100 : shapeOf Tryd.prog 100 = some (false, 1) := by kernel_rfl
@[go_sem] theorem Tryd.load100 (H : Heap) (a : V) : readV Tryd.prog H 100 a = loadK (some (false, 1)) (obOf H a) a := readV_K Tryd.shape100 H a
@[go_sem] theorem Tryd.sz100 : szOf Tryd.prog 100 = some 1 := by kernel_rfl
@[go_sem] theorem Tryd.bytes100 : bytesV Tryd.prog 100 = some 8 := by kernel_rfl
@[go_sem] theorem Tryd.agg100 : isAggB Tryd.prog 100 = some false := by kernel_rfl
@[go_sem] theorem Tryd.zero100 : zeroC Tryd.prog 100 = some [.nilf] := by kernel_rfl
theorem Tryd.nk100 : nilKind Tryd.prog 100 = 3 := by kernel_rfl
@[go_sem] theorem Tryd.eqn100 (a : V) : binV Tryd.prog .eql 100 a .nilf = (nilK 3 a).map .bool := (binV_nil _ _ Tryd.nk100 (by simp) a).1
@[go_sem] theorem Tryd.nen100 (a : V) : binV Tryd.prog .neq 100 a .nilf = (nilK 3 a).map fun r => .bool (!r) := (binV_nil _ _ Tryd.nk100 (by simp) a).2
theorem Tryd.shape101 : shapeOf Tryd.prog 101 = some (false, 1) := by kernel_rfl
@[go_sem] theorem Tryd.load101 (H : Heap) (a : V) : readV Tryd.prog H 101 a = loadK (some (false, 1)) (obOf H a) a := readV_K Tryd.shape101 H a
@[go_sem] theorem Tryd.sz101 : szOf Tryd.prog 101 = some 1 := by kernel_rfl
@[go_sem] theorem Tryd.bytes101 : bytesV Tryd.prog 101 = some 8 := by kernel_rfl
@[go_sem] theorem Tryd.agg101 : isAggB Tryd.prog 101 = some false := by kernel_rfl
@[go_sem] theorem Tryd.zero101 : zeroC Tryd.prog 101 = some [.nilf] := by kernel_rfl
theorem Tryd.nk101 : nilKind Tryd.prog 101 = 3 := by kernel_rfl
@[go_sem] theorem Tryd.eqn101 (a : V) : binV Tryd.prog .eql 101 a .nilf = (nilK 3 a).map .bool := (binV_nil _ _ Tryd.nk101 (by simp) a).1
@[go_sem] theorem Tryd.nen101 (a : V) : binV Tryd.prog .neq 101 a .nilf = (nilK 3 a).map fun r => .bool (!r) := (binV_nil _ _ Tryd.nk101 (by simp) a).2
theorem Tryd.shape102 : shapeOf Tryd.prog 102 = some (false, 1) := by kernel_rfl
@[go_sem] theorem Tryd.load102 (H : Heap) (a : V) : readV Tryd.prog H 102 a = loadK (some (false, 1)) (obOf H a) a := readV_K Tryd.shape102 H a
@[go_sem] theorem Tryd.sz102 : szOf Tryd.prog 102 = some 1 := by kernel_rfl
@[go_sem] theorem Tryd.bytes102 : bytesV Tryd.prog 102 = some 8 := by kernel_rfl
@[go_sem] theorem Tryd.agg102 : isAggB Tryd.prog 102 = some false := by kernel_rfl
@[go_sem] theorem Tryd.zero102 : zeroC Tryd.prog 102 = some [.nilf] := by kernel_rfl
theorem Tryd.nk102 : nilKind Tryd.prog 102 = 3 := by kernel_rfl
@[go_sem] theorem Tryd.eqn102 (a : V) : binV Tryd.prog .eql 102 a .nilf = (nilK 3 a).map .bool := (binV_nil _ _ Tryd.nk102 (by simp) a).1
@[go_sem] theorem Tryd.nen102 (a : V) : binV Tryd.prog .neq 102 a .nilf = (nilK 3 a).map fun r => .bool (!r) := (binV_nil _ _ Tryd.nk102 (by simp) a).2
theorem Tryd.shape103 : shapeOf Tryd.prog 103 = some (true, 20) := by kernel_rfl
@[go_sem] theorem Tryd.load103 (H : Heap) (a : V) : readV Tryd.prog H 103 a = loadK (some (true, 20)) (obOf H a) a := readV_K Tryd.shape103 H a
@[go_sem] theorem Tryd.sz103 : szOf Tryd.prog 103 = some 20 := by kernel_rfl
@[go_sem] theorem Tryd.bytes103 : bytesV Tryd.prog 103 = some 160 := by kernel_rfl
@[go_sem] theorem Tryd.agg103 : isAggB Tryd.prog 103 = some true := by kernel_rfl
@[go_sem] theorem Tryd.zero103 : zeroC Tryd.prog 103 = some [.int .u64 0, .int .u64 0, .int .u64 0, .int .u64 0, .int .u64 0, .int .u64 0, .int .u64 0, .int .u64 0, .int .u64 0, .int .u64 0, .int .u64 0, .int .u64 0, .int .u64 0, .int .u64 0, .int .u64 0, .int .u64 0, .int .u64 0, .int .u64 0, .int .u64 0, .int .u64 0] := by kernel_rfl
theorem Tryd.zeroV103 : zeroV Tryd.prog 103 = some (.agg [.int .u64 0, .int .u64 0, .int .u64 0, .int .u64 0, .int .u64 0, .int .u64 0, .int .u64 0, .int .u64 0, .int .u64 0, .int .u64 0, .int .u64 0, .int .u64 0, .int .u64 0, .int .u64 0, .int .u64 0, .int .u64 0, .int .u64 0, .int .u64 0, .int .u64 0, .int .u64 0]) := by kernel_rfl
theorem Tryd.shape104 : shapeOf Tryd.prog 104 = some (false, 1) := by kernel_rfl
@[go_sem] theorem Tryd.load104 (H : Heap) (a : V) : readV Tryd.prog H 104 a = loadK (some (false, 1)) (obOf H a) a := readV_K Tryd.shape104 H a
@[go_sem] theorem Tryd.sz104 : szOf Tryd.prog 104 = some 1 := by kernel_rfl
@[go_sem] theorem Tryd.bytes104 : bytesV Tryd.prog 104 = some 4 := by kernel_rfl
@[go_sem] theorem Tryd.agg104 : isAggB Tryd.prog 104 = some false := by kernel_rfl
@[go_sem] theorem Tryd.zero104 : zeroC Tryd.prog 104 = some [.int .u32 0] := by kernel_rfl
theorem Tryd.shape105 : shapeOf Tryd.prog 105 = some (true, 65) := by kernel_rfl
@[go_sem] theorem Tryd.load105 (H : Heap) (a : V) : readV Tryd.prog H 105 a = loadK (some (true, 65)) (obOf H a) a := readV_K Tryd.shape105 H a
@[go_sem] theorem Tryd.sz105 : szOf Tryd.prog 105 = some 65 := by kernel_rfl
@[go_sem] theorem Tryd.bytes105 : bytesV Tryd.prog 105 = some 65 := by kernel_rfl
@[go_sem] theorem Tryd.agg105 : isAggB Tryd.prog 105 = some true := by kernel_rfl
theorem Tryd.shape106 : shapeOf Tryd.prog 106 = some (false, 1) := by kernel_rfl
@[go_sem] theorem Tryd.load106 (H : Heap) (a : V) : readV Tryd.prog H 106 a = loadK (some (false, 1)) (obOf H a) a := readV_K Tryd.shape106 H a
@[go_sem] theorem Tryd.sz106 : szOf Tryd.prog 106 = some 1 := by kernel_rfl
@[go_sem] theorem Tryd.bytes106 : bytesV Tryd.prog 106 = some 8 := by kernel_rfl
@[go_sem] theorem Tryd.agg106 : isAggB Tryd.prog 106 = some false := by kernel_rfl
@[go_sem] theorem Tryd.zero106 : zeroC Tryd.prog 106 = some [.nilf] := by kernel_rfl
theorem Tryd.nk106 : nilKind Tryd.prog 106 = 3 := by kernel_rfl
@[go_sem] theorem Tryd.eqn106 (a : V) : binV Tryd.prog .eql 106 a .nilf = (nilK 3 a).map .bool := (binV_nil _ _ Tryd.nk106 (by simp) a).1
@[go_sem] theorem Tryd.nen106 (a : V) : binV Tryd.prog .neq 106 a .nilf = (nilK 3 a).map fun r => .bool (!r) := (binV_nil _ _ Tryd.nk106 (by simp) a).2
theorem Tryd.shape107 : shapeOf Tryd.prog 107 = some (false, 1) := by kernel_rfl
@[go_sem] theorem Tryd.load107 (H : Heap) (a : V) : readV Tryd.prog H 107 a = loadK (some (false, 1)) (obOf H a) a := readV_K Tryd.shape107 H a
@[go_sem] theorem Tryd.sz107 : szOf Tryd.prog 107 = some 1 := by kernel_rfl
@[go_sem] theorem Tryd.bytes107 : bytesV Tryd.prog 107 = some 8 := by kernel_rfl
@[go_sem] theorem Tryd.agg107 : isAggB Tryd.prog 107 = some false := by kernel_rfl
@[go_sem] theorem Tryd.zero107 : zeroC Tryd.prog 107 = some [.nilf] := by kernel_rfl
theorem Tryd.nk107 : nilKind Tryd.prog 107 = 3 := by kernel_rfl
@[go_sem] theorem Tryd.eqn107 (a : V) : binV Tryd.prog .eql 107 a .nilf = (nilK 3 a).map .bool := (binV_nil _ _ Tryd.nk107 (by simp) a).1
@[go_sem] theorem Tryd.nen107 (a : V) : binV Tryd.prog .neq 107 a .nilf = (nilK 3 a).map fun r => .bool (!r) := (binV_nil _ _ Tryd.nk107 (by simp) a).2
theorem Tryd.shape108 : shapeOf Tryd.prog 108 = some (false, 1) := by kernel_rfl
@[go_sem] theorem Tryd.load108 (H : Heap) (a : V) : readV Tryd.prog H 108 a = loadK (some (false, 1)) (obOf H a) a := readV_K Tryd.shape108 H a
@[go_sem] theorem Tryd.sz108 : szOf Tryd.prog 108 = some 1 := by kernel_rfl
@[go_sem] theorem Tryd.bytes108 : bytesV Tryd.prog 108 = some 8 := by kernel_rfl
@[go_sem] theorem Tryd.agg108 : isAggB Tryd.prog 108 = some false := by kernel_rfl
@[go_sem] theorem Tryd.zero108 : zeroC Tryd.prog 108 = some [.nilp] := by kernel_rfl
theorem Tryd.nk108 : nilKind Tryd.prog 108 = 1 := by kernel_rfl
@[go_sem] theorem Tryd.eqn108 (a : V) : binV Tryd.prog .eql 108 a .nilp = (nilK 1 a).map .bool := (binV_nil _ _ Tryd.nk108 (by simp) a).1
@[go_sem] theorem Tryd.nen108 (a : V) : binV Tryd.prog .neq 108 a .nilp = (nilK 1 a).map fun r => .bool (!r) := (binV_nil _ _ Tryd.nk108 (by simp) a).2
theorem Tryd.shape109 : shapeOf Tryd.prog 109 = some (false, 1) := by kernel_rfl
@[go_sem] theorem Tryd.load109 (H : Heap) (a : V) : readV Tryd.prog H 109 a = loadK (some (false, 1)) (obOf H a) a := readV_K Tryd.shape109 H a
@[go_sem] theorem Tryd.sz109 : szOf Tryd.prog 109 = some 1 := by kernel_rfl
@[go_sem] theorem Tryd.bytes109 : bytesV Tryd.prog 109 = some 8 := by kernel_rfl
@[go_sem] theorem Tryd.agg109 : isAggB Tryd.prog 109 = some false := by kernel_rfl
@[go_sem] theorem Tryd.zero109 : zeroC Tryd.prog 109 = some [.nilp] := by kernel_rfl
theorem Tryd.nk109 : nilKind Tryd.prog 109 = 1 := by kernel_rfl
@[go_sem] theorem Tryd.eqn109 (a : V) : binV Tryd.prog .eql 109 a .nilp = (nilK 1 a).map .bool := (binV_nil _ _ Tryd.nk109 (by simp) a).1
@[go_sem] theorem Tryd.nen109 (a : V) : binV Tryd.prog .neq 109 a .nilp = (nilK 1 a).map fun r => .bool (!r) := (binV_nil _ _ Tryd.nk109 (by simp) a).2
theorem Tryd.shape110 : shapeOf Tryd.prog 110 = some (true, 1) := by kernel_rfl
@[go_sem] theorem Tryd.load110 (H : Heap) (a : V) : readV Tryd.prog H 110 a = loadK (some (true, 1)) (obOf H a) a := readV_K Tryd.shape110 H a
@[go_sem] theorem Tryd.sz110 : szOf Tryd.prog 110 = some 1 := by kernel_rfl
@[go_sem] theorem Tryd.bytes110 : bytesV Tryd.prog 110 = some 16 := by kernel_rfl
@[go_sem] theorem Tryd.agg110 : isAggB Tryd.prog 110 = some true := by kernel_rfl
@[go_sem] theorem Tryd.zero110 : zeroC Tryd.prog 110 = some [.str []] := by kernel_rfl
theorem Tryd.zeroV110 : zeroV Tryd.prog 110 = some (.agg [.str []]) := by kernel_rfl
@[go_sem] theorem Tryd.bld110 (l : List (Nat × V)) : buildV Tryd.prog 110 l = (fillV (tblP [(0, 1)]) [.str []] l).map .agg := buildV_K (P := Tryd.prog) (t := 110) (tbl := [(0, 1)]) (z := [.str []]) (by kernel_rfl) (by kernel_rfl) l
theorem Tryd.fld110_0 : fldOf Tryd.prog 110 0 = some (0, false, 1) := by kernel_rfl
@[go_sem] theorem Tryd.fa110_0 (a : V) : fieldAddrV Tryd.prog 110 a 0 = fldK (some (0, false, 1)) a := fieldAddrV_K Tryd.fld110_0 a
@[go_sem] theorem Tryd.fv110_0 (l : List V) : fieldV Tryd.prog 110 (.agg l) 0 = partC false 1 l 0 := fieldV_K Tryd.fld110_0 l
theorem Tryd.shape111 : shapeOf Tryd.prog 111 = some (true, 1) := by kernel_rfl
@[go_sem] theorem Tryd.load111 (H : Heap) (a : V) : readV Tryd.prog H 111 a = loadK (some (true, 1)) (obOf H a) a := readV_K Tryd.shape111 H a
@[go_sem] theorem Tryd.sz111 : szOf Tryd.prog 111 = some 1 := by kernel_rfl
@[go_sem] theorem Tryd.bytes111 : bytesV Tryd.prog 111 = some 16 := by kernel_rfl
@[go_sem] theorem Tryd.agg111 : isAggB Tryd.prog 111 = some true := by kernel_rfl
@[go_sem] theorem Tryd.zero111 : zeroC Tryd.prog 111 = some [.str []] := by kernel_rfl
theorem Tryd.zeroV111 : zeroV Tryd.prog 111 = some (.agg [.str []]) := by kernel_rfl
@[go_sem] theorem Tryd.bld111 (l : List (Nat × V)) : buildV Tryd.prog 111 l = (fillV (tblP [(0, 1)]) [.str []] l).map .agg := buildV_K (P := Tryd.prog) (t := 111) (tbl := [(0, 1)]) (z := [.str []]) (by kernel_rfl) (by kernel_rfl) l
theorem Tryd.fld111_0 : fldOf Tryd.prog 111 0 = some (0, false, 1) := by kernel_rfl
@[go_sem] theorem Tryd.fa111_0 (a : V) : fieldAddrV Tryd.prog 111 a 0 = fldK (some (0, false, 1)) a := fieldAddrV_K Tryd.fld111_0 a
@[go_sem] theorem Tryd.fv111_0 (l : List V) : fieldV Tryd.prog 111 (.agg l) 0 = partC false 1 l 0 := fieldV_K Tryd.fld111_0 l
theorem Tryd.shape112 : shapeOf Tryd.prog 112 = some (false, 1) := by kernel_rfl
@[go_sem] theorem Tryd.load112 (H : Heap) (a : V) : readV Tryd.prog H 112 a = loadK (some (false, 1)) (obOf H a) a := readV_K Tryd.shape112 H a
@[go_sem] theorem Tryd.sz112 : szOf Tryd.prog 112 = some 1 := by kernel_rfl
@[go_sem] theorem Tryd.bytes112 : bytesV Tryd.prog 112 = some 8 := by kernel_rfl
@[go_sem] theorem Tryd.agg112 : isAggB Tryd.prog 112 = some false := by kernel_rfl
@[go_sem] theorem Tryd.zero112 : zeroC Tryd.prog 112 = some [.nilf] := by kernel_rfl
theorem Tryd.nk112 : nilKind Tryd.prog 112 = 3 := by kernel_rfl
@[go_sem] theorem Tryd.eqn112 (a : V) : binV Tryd.prog .eql 112 a .nilf = (nilK 3 a).map .bool := (binV_nil _ _ Tryd.nk112 (by simp) a).1
@[go_sem] theorem Tryd.nen112 (a : V) : binV Tryd.prog .neq 112 a .nilf = (nilK 3 a).map fun r => .bool (!r) := (binV_nil _ _ Tryd.nk112 (by simp) a).2
theorem Tryd.shape113 : shapeOf Tryd.prog 113 = some (true, 32) := by kernel_rfl
@[go_sem] theorem Tryd.load113 (H : Heap) (a : V) : readV Tryd.prog H 113 a = loadK (some (true, 32)) (obOf H a) a := readV_K Tryd.shape113 H a
@[go_sem] theorem Tryd.sz113 : szOf Tryd.prog 113 = some 32 := by kernel_rfl
@[go_sem] theorem Tryd.bytes113 : bytesV Tryd.prog 113 = some 32 := by kernel_rfl
@[go_sem] theorem Tryd.agg113 : isAggB Tryd.prog 113 = some true := by kernel_rfl
@[go_sem] theorem Tryd.zero113 : zeroC Tryd.prog 113 = some [.int .u8 0, .int .u8 0, .int .u8 0, .int .u8 0, .int .u8 0, .int .u8 0, .int .u8 0, .int .u8 0, .int .u8 0, .int .u8 0, .int .u8 0, .int .u8 0, .int .u8 0, .int .u8 0, .int .u8 0, .int .u8 0, .int .u8 0, .int .u8 0, .int .u8 0, .int .u8 0, .int .u8 0, .int .u8 0, .int .u8 0, .int .u8 0, .int .u8 0, .int .u8 0, .int .u8 0, .int .u8 0, .int .u8 0, .int .u8 0, .int .u8 0, .int .u8 0] := by kernel_rfl
theorem Tryd.zeroV113 : zeroV Tryd.prog 113 = some (.agg [.int .u8 0, .int .u8 0, .int .u8 0, .int .u8 0, .int .u8 0, .int .u8 0, .int .u8 0, .int .u8 0, .int .u8 0, .int .u8 0, .int .u8 0, .int .u8 0, .int .u8 0, .int .u8 0, .int .u8 0, .int .u8 0, .int .u8 0, .int .u8 0, .int .u8 0, .int .u8 0, .int .u8 0, .int .u8 0, .int .u8 0, .int .u8 0, .int .u8 0, .int .u8 0, .int .u8 0, .int .u8 0, .int .u8 0, .int .u8 0, .int .u8 0, .int .u8 0]) := by kernel_rfl
theorem Tryd.shape114 : shapeOf Tryd.prog 114 = some (true, 64) := by kernel_rfl
@[go_sem] theorem Tryd.load114 (H : Heap) (a : V) : readV Tryd.prog H 114 a = loadK (some (true, 64)) (obOf H a) a := readV_K Tryd.shape114 H a
@[go_sem] theorem Tryd.sz114 : szOf Tryd.prog 114 = some 64 := by kernel_rfl
@[go_sem] theorem Tryd.bytes114 : bytesV Tryd.prog 114 = some 64 := by kernel_rfl
@[go_sem] theorem Tryd.agg114 : isAggB Tryd.prog 114 = some true := by kernel_rfl
@[go_sem] theorem Tryd.zero114 : zeroC Tryd.prog 114 = some [.int .u8 0, .int .u8 0, .int .u8 0, .int .u8 0, .int .u8 0, .int .u8 0, .int .u8 0, .int .u8 0, .int .u8 0, .int .u8 0, .int .u8 0, .int .u8 0, .int .u8 0, .int .u8 0, .int .u8 0, .int .u8 0, .int .u8 0, .int .u8 0, .int .u8 0, .int .u8 0, .int .u8 0, .int .u8 0, .int .u8 0, .int .u8 0, .int .u8 0, .int .u8 0, .int .u8 0, .int .u8 0, .int .u8 0, .int .u8 0, .int .u8 0, .int .u8 0, .int .u8 0, .int .u8 0, .int .u8 0, .int .u8 0, .int .u8 0, .int .u8 0, .int .u8 0, .int .u8 0, .int .u8 0, .int .u8 0, .int .u8 0, .int .u8 0, .int .u8 0, .int .u8 0, .int .u8 0, .int .u8 0, .int .u8 0, .int .u8 0, .int .u8 0, .int .u8 0, .int .u8 0, .int .u8 0, .int .u8 0, .int .u8 0, .int .u8 0, .int .u8 0, .int .u8 0, .int .u8 0, .int .u8 0, .int .u8 0, .int .u8 0, .int .u8 0] := by kernel_rfl
theorem Tryd.zeroV114 : zeroV Tryd.prog 114 = some (.agg [.int .u8 0, .int .u8 0, .int .u8 0, .int .u8 0, .int .u8 0, .int .u8 0, .int .u8 0, .int .u8 0, .int .u8 0, .int .u8 0, .int .u8 0, .int .u8 0, .int .u8 0, .int .u8 0, .int .u8 0, .int .u8 0, .int .u8 0, .int .u8 0, .int .u8 0, .int .u8 0, .int .u8 0, .int .u8 0, .int .u8 0, .int .u8 0, .int .u8 0, .int .u8 0, .int .u8 0, .int .u8 0, .int .u8 0, .int .u8 0, .int .u8 0, .int .u8 0, .int .u8 0, .int .u8 0, .int .u8 0, .int .u8 0, .int .u8 0, .int .u8 0, .int .u8 0, .int .u8 0, .int .u8 0, .int .u8 0, .int .u8 0, .int .u8 0, .int .u8 0, .int .u8 0, .int .u8 0, .int .u8 0, .int .u8 0, .int .u8 0, .int .u8 0, .int .u8 0, .int .u8 0, .int .u8 0, .int .u8 0, .int .u8 0, .int .u8 0, .int .u8 0, .int .u8 0, .int .u8 0, .int .u8 0, .int .u8 0, .int .u8 0, .int .u8 0]) := by kernel_rfl
theorem Tryd.shape115 : shapeOf Tryd.prog 115 = some (false, 1) := by kernel_rfl
@[go_sem] theorem Tryd.load115 (H : Heap) (a : V) : readV Tryd.prog H 115 a = loadK (some (false, 1)) (obOf H a) a := readV_K Tryd.shape115 H a
@[go_sem] theorem Tryd.sz115 : szOf Tryd.prog 115 = some 1 := by kernel_rfl
@[go_sem] theorem Tryd.bytes115 : bytesV Tryd.prog 115 = some 8 := by kernel_rfl
@[go_sem] theorem Tryd.agg115 : isAggB Tryd.prog 115 = some false := by kernel_rfl
@[go_sem] theorem Tryd.zero115 : zeroC Tryd.prog 115 = some [.nilf] := by kernel_rfl
theorem Tryd.nk115 : nilKind Tryd.prog 115 = 3 := by kernel_rfl
@[go_sem] theorem Tryd.eqn115 (a : V) : binV Tryd.prog .eql 115 a .nilf = (nilK 3 a).map .bool := (binV_nil _ _ Tryd.nk115 (by simp) a).1
@[go_sem] theorem Tryd.nen115 (a : V) : binV Tryd.prog .neq 115 a .nilf = (nilK 3 a).map fun r => .bool (!r) := (binV_nil _ _ Tryd.nk115 (by simp) a).2
theorem Tryd.shape116 : shapeOf Tryd.prog 116 = some (true, 4) := by kernel_rfl
@[go_sem] theorem Tryd.load116 (H : Heap) (a : V) : readV Tryd.prog H 116 a = loadK (some (true, 4)) (obOf H a) a := readV_K Tryd.shape116 H a
@[go_sem] theorem Tryd.sz116 : szOf Tryd.prog 116 = some 4 := by kernel_rfl
@[go_sem] theorem Tryd.bytes116 : bytesV Tryd.prog 116 = some 40 := by kernel_rfl
@[go_sem] theorem Tryd.agg116 : isAggB Tryd.prog 116 = some true := by kernel_rfl
@[go_sem] theorem Tryd.zero116 : zeroC Tryd.prog 116 = some [.nilp, .nilp, .nilp, .str []] := by kernel_rfl
theorem Tryd.zeroV116 : zeroV Tryd.prog 116 = some (.agg [.nilp, .nilp, .nilp, .str []]) := by kernel_rfl
@[go_sem] theorem Tryd.bld116 (l : List (Nat × V)) : buildV Tryd.prog 116 l = (fillV (tblP [(0, 1), (1, 1), (2, 1), (3, 1)]) [.nilp, .nilp, .nilp, .str []] l).map .agg := buildV_K (P := Tryd.prog) (t := 116) (tbl := [(0, 1), (1, 1), (2, 1), (3, 1)]) (z := [.nilp, .nilp, .nilp, .str []]) (by kernel_rfl) (by kernel_rfl) l
theorem Tryd.fld116_0 : fldOf Tryd.prog 116 0 = some (0, false, 1) := by kernel_rfl
@[go_sem] theorem Tryd.fa116_0 (a : V) : fieldAddrV Tryd.prog 116 a 0 = fldK (some (0, false, 1)) a := fieldAddrV_K Tryd.fld116_0 a
@[go_sem] theorem Tryd.fv116_0 (l : List V) : fieldV Tryd.prog 116 (.agg l) 0 = partC false 1 l 0 := fieldV_K Tryd.fld116_0 l
theorem Tryd.fld116_1 : fldOf Tryd.prog 116 1 = some (1, false, 1) := by kernel_rfl
@[go_sem] theorem Tryd.fa116_1 (a : V) : fieldAddrV Tryd.prog 116 a 1 = fldK (some (1, false, 1)) a := fieldAddrV_K Tryd.fld116_1 a
@[go_sem] theorem Tryd.fv116_1 (l : List V) : fieldV Tryd.prog 116 (.agg l) 1 = partC false 1 l 1 := fieldV_K Tryd.fld116_1 l
theorem Tryd.fld116_2 : fldOf Tryd.prog 116 2 = some (2, false, 1) := by kernel_rfl
@[go_sem] theorem Tryd.fa116_2 (a : V) : fieldAddrV Tryd.prog 116 a 2 = fldK (some (2, false, 1)) a := fieldAddrV_K Tryd.fld116_2 a
@[go_sem] theorem Tryd.fv116_2 (l : List V) : fieldV Tryd.prog 116 (.agg l) 2 = partC false 1 l 2 := fieldV_K Tryd.fld116_2 l
theorem Tryd.fld116_3 : fldOf Tryd.prog 116 3 = some (3, false, 1) := by kernel_rfl
@[go_sem] theorem Tryd.fa116_3 (a : V) : fieldAddrV Tryd.prog 116 a 3 = fldK (some (3, false, 1)) a := fieldAddrV_K Tryd.fld116_3 a
@[go_sem] theorem Tryd.fv116_3 (l : List V) : fieldV Tryd.prog 116 (.agg l) 3 = partC false 1 l 3 := fieldV_K Tryd.fld116_3 l
theorem Tryd.shape117 : shapeOf Tryd.prog 117 = some (true, 4) := by kernel_rfl
@[go_sem] theorem Tryd.load117 (H : Heap) (a : V) : readV Tryd.prog H 117 a = loadK (some (true, 4)) (obOf H a) a := readV_K Tryd.shape117 H a
@[go_sem] theorem Tryd.sz117 : szOf Tryd.prog 117 = some 4 := by kernel_rfl
@[go_sem] theorem Tryd.bytes117 : bytesV Tryd.prog 117 = some 40 := by kernel_rfl
@[go_sem] theorem Tryd.agg117 : isAggB Tryd.prog 117 = some true := by kernel_rfl
@[go_sem] theorem Tryd.zero117 : zeroC Tryd.prog 117 = some [.nilp, .nilp, .nilp, .str []] := by kernel_rfl
theorem Tryd.zeroV117 : zeroV Tryd.prog 117 = some (.agg [.nilp, .nilp, .nilp, .str []]) := by kernel_rfl
@[go_sem] theorem Tryd.bld117 (l : List (Nat × V)) : buildV Tryd.prog 117 l = (fillV (tblP [(0, 1), (1, 1), (2, 1), (3, 1)]) [.nilp, .nilp, .nilp, .str []] l).map .agg := buildV_K (P := Tryd.prog) (t := 117) (tbl := [(0, 1), (1, 1), (2, 1), (3, 1)]) (z := [.nilp, .nilp, .nilp, .str []]) (by kernel_rfl) (by kernel_rfl) l
theorem Tryd.fld117_0 : fldOf Tryd.prog 117 0 = some (0, false, 1) := by kernel_rfl
@[go_sem] theorem Tryd.fa117_0 (a : V) : fieldAddrV Tryd.prog 117 a 0 = fldK (some (0, false, 1)) a := fieldAddrV_K Tryd.fld117_0 a
@[go_sem] theorem Tryd.fv117_0 (l : List V) : fieldV Tryd.prog 117 (.agg l) 0 = partC false 1 l 0 := fieldV_K Tryd.fld117_0 l
theorem Tryd.fld117_1 : fldOf Tryd.prog 117 1 = some (1, false, 1) := by kernel_rfl
@[go_sem] theorem Tryd.fa117_1 (a : V) : fieldAddrV Tryd.prog 117 a 1 = fldK (some (1, false, 1)) a := fieldAddrV_K Tryd.fld117_1 a
@[go_sem] theorem Tryd.fv117_1 (l : List V) : fieldV Tryd.prog 117 (.agg l) 1 = partC false 1 l 1 := fieldV_K Tryd.fld117_1 l
theorem Tryd.fld117_2 : fldOf Tryd.prog 117 2 = some (2, false, 1) := by kernel_rfl
@[go_sem] theorem Tryd.fa117_2 (a : V) : fieldAddrV Tryd.prog 117 a 2 = fldK (some (2, false, 1)) a := fieldAddrV_K Tryd.fld117_2 a
@[go_sem] theorem Tryd.fv117_2 (l : List V) : fieldV Tryd.prog 117 (.agg l) 2 = partC false 1 l 2 := fieldV_K Tryd.fld117_2 l
theorem Tryd.fld117_3 : fldOf Tryd.prog 117 3 = some (3, false, 1) := by kernel_rfl
@[go_sem] theorem Tryd.fa117_3 (a : V) : fieldAddrV Tryd.prog 117 a 3 = fldK (some (3, false, 1)) a := fieldAddrV_K Tryd.fld117_3 a
@[go_sem] theorem Tryd.fv117_3 (l : List V) : fieldV Tryd.prog 117 (.agg l) 3 = partC false 1 l 3 := fieldV_K Tryd.fld117_3 l
theorem Tryd.shape118 : shapeOf Tryd.prog 118 = some (true, 0) := by kernel_rfl
@[go_sem] theorem Tryd.load118 (H : Heap) (a : V) : readV Tryd.prog H 118 a = loadK (some (true, 0)) (obOf H a) a := readV_K Tryd.shape118 H a
@[go_sem] theorem Tryd.sz118 : szOf Tryd.prog 118 = some 0 := by kernel_rfl
@[go_sem] theorem Tryd.bytes118 : bytesV Tryd.prog 118 = some 0 := by kernel_rfl
@[go_sem] theorem Tryd.agg118 : isAggB Tryd.prog 118 = some true := by kernel_rfl
@[go_sem] theorem Tryd.zero118 : zeroC Tryd.prog 118 = some [] := by kernel_rfl
theorem Tryd.zeroV118 : zeroV Tryd.prog 118 = some (.agg []) := by kernel_rfl
theorem Tryd.shape119 : shapeOf Tryd.prog 119 = some (true, 0) := by kernel_rfl
@[go_sem] theorem Tryd.load119 (H : Heap) (a : V) : readV Tryd.prog H 119 a = loadK (some (true, 0)) (obOf H a) a := readV_K Tryd.shape119 H a
@[go_sem] theorem Tryd.sz119 : szOf Tryd.prog 119 = some 0 := by kernel_rfl
@[go_sem] theorem Tryd.bytes119 : bytesV Tryd.prog 119 = some 0 := by kernel_rfl
@[go_sem] theorem Tryd.agg119 : isAggB Tryd.prog 119 = some true := by kernel_rfl
@[go_sem] theorem Tryd.zero119 : zeroC Tryd.prog 119 = some [] := by kernel_rfl
theorem Tryd.zeroV119 : zeroV Tryd.prog 119 = some (.agg []) := by kernel_rfl
theorem Tryd.shape120 : shapeOf Tryd.prog 120 = some (true, 0) := by kernel_rfl
@[go_sem] theorem Tryd.load120 (H : Heap) (a : V) : readV Tryd.prog H 120 a = loadK (some (true, 0)) (obOf H a) a := readV_K Tryd.shape120 H a
@[go_sem] theorem Tryd.sz120 : szOf Tryd.prog 120 = some 0 := by kernel_rfl
@[go_sem] theorem Tryd.bytes120 : bytesV Tryd.prog 120 = some 0 := by kernel_rfl
@[go_sem] theorem Tryd.agg120 : isAggB Tryd.prog 120 = some true := by kernel_rfl
@[go_sem] theorem Tryd.zero120 : zeroC Tryd.prog 120 = some [] := by kernel_rfl
theorem Tryd.zeroV120 : zeroV Tryd.prog 120 = some (.agg []) := by kernel_rfl
theorem Tryd.shape121 : shapeOf Tryd.prog 121 = some (false, 1) := by kernel_rfl
@[go_sem] theorem Tryd.load121 (H : Heap) (a : V) : readV Tryd.prog H 121 a = loadK (some (false, 1)) (obOf H a) a := readV_K Tryd.shape121 H a
@[go_sem] theorem Tryd.sz121 : szOf Tryd.prog 121 = some 1 := by kernel_rfl
@[go_sem] theorem Tryd.bytes121 : bytesV Tryd.prog 121 = some 8 := by kernel_rfl
@[go_sem] theorem Tryd.agg121 : isAggB Tryd.prog 121 = some false := by kernel_rfl
@[go_sem] theorem Tryd.zero121 : zeroC Tryd.prog 121 = some [.nilf] := by kernel_rfl
theorem Tryd.nk121 : nilKind Tryd.prog 121 = 3 := by kernel_rfl
@[go_sem] theorem Tryd.eqn121 (a : V) : binV Tryd.prog .eql 121 a .nilf = (nilK 3 a).map .bool := (binV_nil _ _ Tryd.nk121 (by simp) a).1
@[go_sem] theorem Tryd.nen121 (a : V) : binV Tryd.prog .neq 121 a .nilf = (nilK 3 a).map fun r => .bool (!r) := (binV_nil _ _ Tryd.nk121 (by simp) a).2
theorem Tryd.shape122 : shapeOf Tryd.prog 122 = some (false, 1) := by kernel_rfl
@[go_sem] theorem Tryd.load122 (H : Heap) (a : V) : readV Tryd.prog H 122 a = loadK (some (false, 1)) (obOf H a) a := readV_K Tryd.shape122 H a
@[go_sem] theorem Tryd.sz122 : szOf Tryd.prog 122 = some 1 := by kernel_rfl
@[go_sem] theorem Tryd.bytes122 : bytesV Tryd.prog 122 = some 1 := by kernel_rfl
@[go_sem] theorem Tryd.agg122 : isAggB Tryd.prog 122 = some false := by kernel_rfl
@[go_sem] theorem Tryd.zero122 : zeroC Tryd.prog 122 = some [.int .u8 0] := by kernel_rfl
theorem Tryd.shape123 : shapeOf Tryd.prog 123 = some (false, 1) := by kernel_rfl
@[go_sem] theorem Tryd.load123 (H : Heap) (a : V) : readV Tryd.prog H 123 a = loadK (some (false, 1)) (obOf H a) a := readV_K Tryd.shape123 H a
@[go_sem] theorem Tryd.sz123 : szOf Tryd.prog 123 = some 1 := by kernel_rfl
@[go_sem] theorem Tryd.bytes123 : bytesV Tryd.prog 123 = some 1 := by kernel_rfl
@[go_sem] theorem Tryd.agg123 : isAggB Tryd.prog 123 = some false := by kernel_rfl
@[go_sem] theorem Tryd.zero123 : zeroC Tryd.prog 123 = some [.int .u8 0] := by kernel_rfl
theorem Tryd.shape124 : shapeOf Tryd.prog 124 = some (false, 1) := by kernel_rfl
@[go_sem] theorem Tryd.load124 (H : Heap) (a : V) : readV Tryd.prog H 124 a = loadK (some (false, 1)) (obOf H a) a := readV_K Tryd.shape124 H a
@[go_sem] theorem Tryd.sz124 : szOf Tryd.prog 124 = some 1 := by kernel_rfl
@[go_sem] theorem Tryd.bytes124 : bytesV Tryd.prog 124 = some 8 := by kernel_rfl
@[go_sem] theorem Tryd.agg124 : isAggB Tryd.prog 124 = some false := by kernel_rfl
@[go_sem] theorem Tryd.zero124 : zeroC Tryd.prog 124 = some [.nilf] := by kernel_rfl
theorem Tryd.nk124 : nilKind Tryd.prog 124 = 3 := by kernel_rfl
@[go_sem] theorem Tryd.eqn124 (a : V) : binV Tryd.prog .eql 124 a .nilf = (nilK 3 a).map .bool := (binV_nil _ _ Tryd.nk124 (by simp) a).1
@[go_sem] theorem Tryd.nen124 (a : V) : binV Tryd.prog .neq 124 a .nilf = (nilK 3 a).map fun r => .bool (!r) := (binV_nil _ _ Tryd.nk124 (by simp) a).2
theorem Tryd.shape125 : shapeOf Tryd.prog 125 = some (false, 1) := by kernel_rfl
@[go_sem] theorem Tryd.load125 (H : Heap) (a : V) : readV Tryd.prog H 125 a = loadK (some (false, 1)) (obOf H a) a := readV_K Tryd.shape125 H a
@[go_sem] theorem Tryd.sz125 : szOf Tryd.prog 125 = some 1 := by kernel_rfl
@[go_sem] theorem Tryd.bytes125 : bytesV Tryd.prog 125 = some 4 := by kernel_rfl
@[go_sem] theorem Tryd.agg125 : isAggB Tryd.prog 125 = some false := by kernel_rfl
@[go_sem] theorem Tryd.zero125 : zeroC Tryd.prog 125 = some [.int .i32 0] := by kernel_rfl
theorem Tryd.shape126 : shapeOf Tryd.prog 126 = some (false, 1) := by kernel_rfl
@[go_sem] theorem Tryd.load126 (H : Heap) (a : V) : readV Tryd.prog H 126 a = loadK (some (false, 1)) (obOf H a) a := readV_K Tryd.shape126 H a
@[go_sem] theorem Tryd.sz126 : szOf Tryd.prog 126 = some 1 := by kernel_rfl
@[go_sem] theorem Tryd.bytes126 : bytesV Tryd.prog 126 = some 4 := by kernel_rfl
@[go_sem] theorem Tryd.agg126 : isAggB Tryd.prog 126 = some false := by kernel_rfl
@[go_sem] theorem Tryd.zero126 : zeroC Tryd.prog 126 = some [.int .i32 0] := by kernel_rfl
theorem Tryd.shape127 : shapeOf Tryd.prog 127 = some (true, 11) := by kernel_rfl
@[go_sem] theorem Tryd.load127 (H : Heap) (a : V) : readV Tryd.prog H 127 a = loadK (some (true, 11)) (obOf H a) a := readV_K Tryd.shape127 H a
@[go_sem] theorem Tryd.sz127 : szOf Tryd.prog 127 = some 11 := by kernel_rfl
@[go_sem] theorem Tryd.bytes127 : bytesV Tryd.prog 127 = some 48 := by kernel_rfl
@[go_sem] theorem Tryd.agg127 : isAggB Tryd.prog 127 = some true := by kernel_rfl
@[go_sem] theorem Tryd.zero127 : zeroC Tryd.prog 127 = some [.int .u64 0, .int .u64 0, .int .u32 0, .int .u8 0, .int .u8 0, .int .u8 0, .int .u8 0, .nilf, .nilp, .int .i32 0, .int .i32 0] := by kernel_rfl
theorem Tryd.zeroV127 : zeroV Tryd.prog 127 = some (.agg [.int .u64 0, .int .u64 0, .int .u32 0, .int .u8 0, .int .u8 0, .int .u8 0, .int .u8 0, .nilf, .nilp, .int .i32 0, .int .i32 0]) := by kernel_rfl
@[go_sem] theorem Tryd.bld127 (l : List (Nat × V)) : buildV Tryd.prog 127 l = (fillV (tblP [(0, 1), (1, 1), (2, 1), (3, 1), (4, 1), (5, 1), (6, 1), (7, 1), (8, 1), (9, 1), (10, 1)]) [.int .u64 0, .int .u64 0, .int .u32 0, .int .u8 0, .int .u8 0, .int .u8 0, .int .u8 0, .nilf, .nilp, .int .i32 0, .int .i32 0] l).map .agg := buildV_K (P := Tryd.prog) (t := 127) (tbl := [(0, 1), (1, 1), (2, 1), (3, 1), (4, 1), (5, 1), (6, 1), (7, 1), (8, 1), (9, 1), (10, 1)]) (z := [.int .u64 0, .int .u64 0, .int .u32 0, .int .u8 0, .int .u8 0, .int .u8 0, .int .u8 0, .nilf, .nilp, .int .i32 0, .int .i32 0]) (by kernel_rfl) (by kernel_rfl) l
theorem Tryd.fld127_0 : fldOf Tryd.prog 127 0 = some (0, false, 1) := by kernel_rfl
@[go_sem] theorem Tryd.fa127_0 (a : V) : fieldAddrV Tryd.prog 127 a 0 = fldK (some (0, false, 1)) a := fieldAddrV_K Tryd.fld127_0 a
@[go_sem] theorem Tryd.fv127_0 (l : List V) : fieldV Tryd.prog 127 (.agg l) 0 = partC false 1 l 0 := fieldV_K Tryd.fld127_0 l
theorem Tryd.fld127_1 : fldOf Tryd.prog 127 1 = some (1, false, 1) := by kernel_rfl
@[go_sem] theorem Tryd.fa127_1 (a : V) : fieldAddrV Tryd.prog 127 a 1 = fldK (some (1, false, 1)) a := fieldAddrV_K Tryd.fld127_1 a
@[go_sem] theorem Tryd.fv127_1 (l : List V) : fieldV Tryd.prog 127 (.agg l) 1 = partC false 1 l 1 := fieldV_K Tryd.fld127_1 l
theorem Tryd.fld127_2 : fldOf Tryd.prog 127 2 = some (2, false, 1) := by kernel_rfl
@[go_sem] theorem Tryd.fa127_2 (a : V) : fieldAddrV Tryd.prog 127 a 2 = fldK (some (2, false, 1)) a := fieldAddrV_K Tryd.fld127_2 a
@[go_sem] theorem Tryd.fv127_2 (l : List V) : fieldV Tryd.prog 127 (.agg l) 2 = partC false 1 l 2 := fieldV_K Tryd.fld127_2 l
theorem Tryd.fld127_3 : fldOf Tryd.prog 127 3 = some (3, false, 1) := by kernel_rfl
@[go_sem] theorem Tryd.fa127_3 (a : V) : fieldAddrV Tryd.prog 127 a 3 = fldK (some (3, false, 1)) a := fieldAddrV_K Tryd.fld127_3 a
@[go_sem] theorem Tryd.fv127_3 (l : List V) : fieldV Tryd.prog 127 (.agg l) 3 = partC false 1 l 3 := fieldV_K Tryd.fld127_3 l
theorem Tryd.fld127_4 : fldOf Tryd.prog 127 4 = some (4, false, 1) := by kernel_rfl
@[go_sem] theorem Tryd.fa127_4 (a : V) : fieldAddrV Tryd.prog 127 a 4 = fldK (some (4, false, 1)) a := fieldAddrV_K Tryd.fld127_4 a
@[go_sem] theorem Tryd.fv127_4 (l : List V) : fieldV Tryd.prog 127 (.agg l) 4 = partC false 1 l 4 := fieldV_K Tryd.fld127_4 l
theorem Tryd.fld127_5 : fldOf Tryd.prog 127 5 = some (5, false, 1) := by kernel_rfl
@[go_sem] theorem Tryd.fa127_5 (a : V) : fieldAddrV Tryd.prog 127 a 5 = fldK (some (5, false, 1)) a := fieldAddrV_K Tryd.fld127_5 a
@[go_sem] theorem Tryd.fv127_5 (l : List V) : fieldV Tryd.prog 127 (.agg l) 5 = partC false 1 l 5 := fieldV_K Tryd.fld127_5 l
theorem Tryd.fld127_6 : fldOf Tryd.prog 127 6 = some (6, false, 1) := by kernel_rfl
@[go_sem] theorem Tryd.fa127_6 (a : V) : fieldAddrV Tryd.prog 127 a 6 = fldK (some (6, false, 1)) a := fieldAddrV_K Tryd.fld127_6 a
@[go_sem] theorem Tryd.fv127_6 (l : List V) : fieldV Tryd.prog 127 (.agg l) 6 = partC false 1 l 6 := fieldV_K Tryd.fld127_6 l
theorem Tryd.fld127_7 : fldOf Tryd.prog 127 7 = some (7, false, 1) := by kernel_rfl
@[go_sem] theorem Tryd.fa127_7 (a : V) : fieldAddrV Tryd.prog 127 a 7 = fldK (some (7, false, 1)) a := fieldAddrV_K Tryd.fld127_7 a
@[go_sem] theorem Tryd.fv127_7 (l : List V) : fieldV Tryd.prog 127 (.agg l) 7 = partC false 1 l 7 := fieldV_K Tryd.fld127_7 l
theorem Tryd.fld127_8 : fldOf Tryd.prog 127 8 = some (8, false, 1) := by kernel_rfl
@[go_sem] theorem Tryd.fa127_8 (a : V) : fieldAddrV Tryd.prog 127 a 8 = fldK (some (8, false, 1)) a := fieldAddrV_K Tryd.fld127_8 a
@[go_sem] theorem Tryd.fv127_8 (l : List V) : fieldV Tryd.prog 127 (.agg l) 8 = partC false 1 l 8 := fieldV_K Tryd.fld127_8 l
theorem Tryd.fld127_9 : fldOf Tryd.prog 127 9 = some (9, false, 1) := by kernel_rfl
@[go_sem] theorem Tryd.fa127_9 (a : V) : fieldAddrV Tryd.prog 127 a 9 = fldK (some (9, false, 1)) a := fieldAddrV_K Tryd.fld127_9 a
@[go_sem] theorem Tryd.fv127_9 (l : List V) : fieldV Tryd.prog 127 (.agg l) 9 = partC false 1 l 9 := fieldV_K Tryd.fld127_9 l
theorem Tryd.fld127_10 : fldOf Tryd.prog 127 10 = some (10, false, 1) := by kernel_rfl
@[go_sem] theorem Tryd.fa127_10 (a : V) : fieldAddrV Tryd.prog 127 a 10 = fldK (some (10, false, 1)) a := fieldAddrV_K Tryd.fld127_10 a
@[go_sem] theorem Tryd.fv127_10 (l : List V) : fieldV Tryd.prog 127 (.agg l) 10 = partC false 1 l 10 := fieldV_K Tryd.fld127_10 l
theorem Tryd.shape128 : shapeOf Tryd.prog 128 = some (true, 11) := by kernel_rfl
@[go_sem] theorem Tryd.load128 (H : Heap) (a : V) : readV Tryd.prog H 128 a = loadK (some (true, 11)) (obOf H a) a := readV_K Tryd.shape128 H a
@[go_sem] theorem Tryd.sz128 : szOf Tryd.prog 128 = some 11 := by kernel_rfl
@[go_sem] theorem Tryd.bytes128 : bytesV Tryd.prog 128 = some 48 := by kernel_rfl
@[go_sem] theorem Tryd.agg128 : isAggB Tryd.prog 128 = some true := by kernel_rfl
@[go_sem] theorem Tryd.zero128 : zeroC Tryd.prog 128 = some [.int .u64 0, .int .u64 0, .int .u32 0, .int .u8 0, .int .u8 0, .int .u8 0, .int .u8 0, .nilf, .nilp, .int .i32 0, .int .i32 0] := by kernel_rfl
theorem Tryd.zeroV128 : zeroV Tryd.prog 128 = some (.agg [.int .u64 0, .int .u64 0, .int .u32 0, .int .u8 0, .int .u8 0, .int .u8 0, .int .u8 0, .nilf, .nilp, .int .i32 0, .int .i32 0]) := by kernel_rfl
@[go_sem] theorem Tryd.bld128 (l : List (Nat × V)) : buildV Tryd.prog 128 l = (fillV (tblP [(0, 1), (1, 1), (2, 1), (3, 1), (4, 1), (5, 1), (6, 1), (7, 1), (8, 1), (9, 1), (10, 1)]) [.int .u64 0, .int .u64 0, .int .u32 0, .int .u8 0, .int .u8 0, .int .u8 0, .int .u8 0, .nilf, .nilp, .int .i32 0, .int .i32 0] l).map .agg := buildV_K (P := Tryd.prog) (t := 128) (tbl := [(0, 1), (1, 1), (2, 1), (3, 1), (4, 1), (5, 1), (6, 1), (7, 1), (8, 1), (9, 1), (10, 1)]) (z := [.int .u64 0, .int .u64 0, .int .u32 0, .int .u8 0, .int .u8 0, .int .u8 0, .int .u8 0, .nilf, .nilp, .int .i32 0, .int .i32 0]) (by kernel_rfl) (by kernel_rfl) l
theorem Tryd.fld128_0 : fldOf Tryd.prog 128 0 = some (0, false, 1) := by kernel_rfl
@[go_sem] theorem Tryd.fa128_0 (a : V) : fieldAddrV Tryd.prog 128 a 0 = fldK (some (0, false, 1)) a := fieldAddrV_K Tryd.fld128_0 a
@[go_sem] theorem Tryd.fv128_0 (l : List V) : fieldV Tryd.prog 128 (.agg l) 0 = partC false 1 l 0 := fieldV_K Tryd.fld128_0 l
theorem Tryd.fld128_1 : fldOf Tryd.prog 128 1 = some (1, false, 1) := by kernel_rfl
@[go_sem] theorem Tryd.fa128_1 (a : V) : fieldAddrV Tryd.prog 128 a 1 = fldK (some (1, false, 1)) a := fieldAddrV_K Tryd.fld128_1 a
@[go_sem] theorem Tryd.fv128_1 (l : List V) : fieldV Tryd.prog 128 (.agg l) 1 = partC false 1 l 1 := fieldV_K Tryd.fld128_1 l
theorem Tryd.fld128_2 : fldOf Tryd.prog 128 2 = some (2, false, 1) := by kernel_rfl
@[go_sem] theorem Tryd.fa128_2 (a : V) : fieldAddrV Tryd.prog 128 a 2 = fldK (some (2, false, 1)) a := fieldAddrV_K Tryd.fld128_2 a
@[go_sem] theorem Tryd.fv128_2 (l : List V) : fieldV Tryd.prog 128 (.agg l) 2 = partC false 1 l 2 := fieldV_K Tryd.fld128_2 l
theorem Tryd.fld128_3 : fldOf Tryd.prog 128 3 = some (3, false, 1) := by kernel_rfl
@[go_sem] theorem Tryd.fa128_3 (a : V) : fieldAddrV Tryd.prog 128 a 3 = fldK (some (3, false, 1)) a := fieldAddrV_K Tryd.fld128_3 a
@[go_sem] theorem Tryd.fv128_3 (l : List V) : fieldV Tryd.prog 128 (.agg l) 3 = partC false 1 l 3 := fieldV_K Tryd.fld128_3 l
theorem Tryd.fld128_4 : fldOf Tryd.prog 128 4 = some (4, false, 1) := by kernel_rfl
@[go_sem] theorem Tryd.fa128_4 (a : V) : fieldAddrV Tryd.prog 128 a 4 = fldK (some (4, false, 1)) a := fieldAddrV_K Tryd.fld128_4 a
@[go_sem] theorem Tryd.fv128_4 (l : List V) : fieldV Tryd.prog 128 (.agg l) 4 = partC false 1 l 4 := fieldV_K Tryd.fld128_4 l
theorem Tryd.fld128_5 : fldOf Tryd.prog 128 5 = some (5, false, 1) := by kernel_rfl
@[go_sem] theorem Tryd.fa128_5 (a : V) : fieldAddrV Tryd.prog 128 a 5 = fldK (some (5, false, 1)) a := fieldAddrV_K Tryd.fld128_5 a
@[go_sem] theorem Tryd.fv128_5 (l : List V) : fieldV Tryd.prog 128 (.agg l) 5 = partC false 1 l 5 := fieldV_K Tryd.fld128_5 l
theorem Tryd.fld128_6 : fldOf Tryd.prog 128 6 = some (6, false, 1) := by kernel_rfl
@[go_sem] theorem Tryd.fa128_6 (a : V) : fieldAddrV Tryd.prog 128 a 6 = fldK (some (6, false, 1)) a := fieldAddrV_K Tryd.fld128_6 a
@[go_sem] theorem Tryd.fv128_6 (l : List V) : fieldV Tryd.prog 128 (.agg l) 6 = partC false 1 l 6 := fieldV_K Tryd.fld128_6 l
theorem Tryd.fld128_7 : fldOf Tryd.prog 128 7 = some (7, false, 1) := by kernel_rfl
@[go_sem] theorem Tryd.fa128_7 (a : V) : fieldAddrV Tryd.prog 128 a 7 = fldK (some (7, false, 1)) a := fieldAddrV_K Tryd.fld128_7 a
@[go_sem] theorem Tryd.fv128_7 (l : List V) : fieldV Tryd.prog 128 (.agg l) 7 = partC false 1 l 7 := fieldV_K Tryd.fld128_7 l
theorem Tryd.fld128_8 : fldOf Tryd.prog 128 8 = some (8, false, 1) := by kernel_rfl
@[go_sem] theorem Tryd.fa128_8 (a : V) : fieldAddrV Tryd.prog 128 a 8 = fldK (some (8, false, 1)) a := fieldAddrV_K Tryd.fld128_8 a
@[go_sem] theorem Tryd.fv128_8 (l : List V) : fieldV Tryd.prog 128 (.agg l) 8 = partC false 1 l 8 := fieldV_K Tryd.fld128_8 l
theorem Tryd.fld128_9 : fldOf Tryd.prog 128 9 = some (9, false, 1) := by kernel_rfl
@[go_sem] theorem Tryd.fa128_9 (a : V) : fieldAddrV Tryd.prog 128 a 9 = fldK (some (9, false, 1)) a := fieldAddrV_K Tryd.fld128_9 a
@[go_sem] theorem Tryd.fv128_9 (l : List V) : fieldV Tryd.prog 128 (.agg l) 9 = partC false 1 l 9 := fieldV_K Tryd.fld128_9 l
theorem Tryd.fld128_10 : fldOf Tryd.prog 128 10 = some (10, false, 1) := by kernel_rfl
@[go_sem] theorem Tryd.fa128_10 (a : V) : fieldAddrV Tryd.prog 128 a 10 = fldK (some (10, false, 1)) a := fieldAddrV_K Tryd.fld128_10 a
@[go_sem] theorem Tryd.fv128_10 (l : List V) : fieldV Tryd.prog 128 (.agg l) 10 = partC false 1 l 10 := fieldV_K Tryd.fld128_10 l
theorem Tryd.shape129 : shapeOf Tryd.prog 129 = some (false, 1) := by kernel_rfl
@[go_sem] theorem Tryd.load129 (H : Heap) (a : V) : readV Tryd.prog H 129 a = loadK (some (false, 1)) (obOf H a) a := readV_K Tryd.shape129 H a
@[go_sem] theorem Tryd.sz129 : szOf Tryd.prog 129 = some 1 := by kernel_rfl
@[go_sem] theorem Tryd.bytes129 : bytesV Tryd.prog 129 = some 8 := by kernel_rfl
@[go_sem] theorem Tryd.agg129 : isAggB Tryd.prog 129 = some false := by kernel_rfl
@[go_sem] theorem Tryd.zero129 : zeroC Tryd.prog 129 = some [.nilf] := by kernel_rfl
theorem Tryd.nk129 : nilKind Tryd.prog 129 = 3 := by kernel_rfl
@[go_sem] theorem Tryd.eqn129 (a : V) : binV Tryd.prog .eql 129 a .nilf = (nilK 3 a).map .bool := (binV_nil _ _ Tryd.nk129 (by simp) a).1
@[go_sem] theorem Tryd.nen129 (a : V) : binV Tryd.prog .neq 129 a .nilf = (nilK 3 a).map fun r => .bool (!r) := (binV_nil _ _ Tryd.nk129 (by simp) a).2
theorem Tryd.shape130 : shapeOf Tryd.prog 130 = some (false, 1) := by kernel_rfl
@[go_sem] theorem Tryd.load130 (H : Heap) (a : V) : readV Tryd.prog H 130 a = loadK (some (false, 1)) (obOf H a) a := readV_K Tryd.shape130 H a
@[go_sem] theorem Tryd.sz130 : szOf Tryd.prog 130 = some 1 := by kernel_rfl
@[go_sem] theorem Tryd.bytes130 : bytesV Tryd.prog 130 = some 8 := by kernel_rfl
@[go_sem] theorem Tryd.agg130 : isAggB Tryd.prog 130 = some false := by kernel_rfl
@[go_sem] theorem Tryd.zero130 : zeroC Tryd.prog 130 = some [.nilf] := by kernel_rfl
theorem Tryd.nk130 : nilKind Tryd.prog 130 = 3 := by kernel_rfl
@[go_sem] theorem Tryd.eqn130 (a : V) : binV Tryd.prog .eql 130 a .nilf = (nilK 3 a).map .bool := (binV_nil _ _ Tryd.nk130 (by simp) a).1
@[go_sem] theorem Tryd.nen130 (a : V) : binV Tryd.prog .neq 130 a .nilf = (nilK 3 a).map fun r => .bool (!r) := (binV_nil _ _ Tryd.nk130 (by simp) a).2
theorem Tryd.shape131 : shapeOf Tryd.prog 131 = some (false, 1) := by kernel_rfl
@[go_sem] theorem Tryd.load131 (H : Heap) (a : V) : readV Tryd.prog H 131 a = loadK (some (false, 1)) (obOf H a) a := readV_K Tryd.shape131 H a
@[go_sem] theorem Tryd.sz131 : szOf Tryd.prog 131 = some 1 := by kernel_rfl
@[go_sem] theorem Tryd.bytes131 : bytesV Tryd.prog 131 = some 8 := by kernel_rfl
@[go_sem] theorem Tryd.agg131 : isAggB Tryd.prog 131 = some false := by kernel_rfl
@[go_sem] theorem Tryd.zero131 : zeroC Tryd.prog 131 = some [.nilf] := by kernel_rfl
theorem Tryd.nk131 : nilKind Tryd.prog 131 = 3 := by kernel_rfl
@[go_sem] theorem Tryd.eqn131 (a : V) : binV Tryd.prog .eql 131 a .nilf = (nilK 3 a).map .bool := (binV_nil _ _ Tryd.nk131 (by simp) a).1
@[go_sem] theorem Tryd.nen131 (a : V) : binV Tryd.prog .neq 131 a .nilf = (nilK 3 a).map fun r => .bool (!r) := (binV_nil _ _ Tryd.nk131 (by simp) a).2
theorem Tryd.shape132 : shapeOf Tryd.prog 132 = some (false, 1) := by kernel_rfl
@[go_sem] theorem Tryd.load132 (H : Heap) (a : V) : readV Tryd.prog H 132 a = loadK (some (false, 1)) (obOf H a) a := readV_K Tryd.shape132 H a
@[go_sem] theorem Tryd.sz132 : szOf Tryd.prog 132 = some 1 := by kernel_rfl
@[go_sem] theorem Tryd.bytes132 : bytesV Tryd.prog 132 = some 8 := by kernel_rfl
@[go_sem] theorem Tryd.agg132 : isAggB Tryd.prog 132 = some false := by kernel_rfl
@[go_sem] theorem Tryd.zero132 : zeroC Tryd.prog 132 = some [.nilf] := by kernel_rfl
theorem Tryd.nk132 : nilKind Tryd.prog 132 = 3 := by kernel_rfl
@[go_sem] theorem Tryd.eqn132 (a : V) : binV Tryd.prog .eql 132 a .nilf = (nilK 3 a).map .bool := (binV_nil _ _ Tryd.nk132 (by simp) a).1
@[go_sem] theorem Tryd.nen132 (a : V) : binV Tryd.prog .neq 132 a .nilf = (nilK 3 a).map fun r => .bool (!r) := (binV_nil _ _ Tryd.nk132 (by simp) a).2
theorem Tryd.shape133 : shapeOf Tryd.prog 133 = some (false, 1) := by kernel_rfl
@[go_sem] theorem Tryd.load133 (H : Heap) (a : V) : readV Tryd.prog H 133 a = loadK (some (false, 1)) (obOf H a) a := readV_K Tryd.shape133 H a
@[go_sem] theorem Tryd.sz133 : szOf Tryd.prog 133 = some 1 := by kernel_rfl
@[go_sem] theorem Tryd.bytes133 : bytesV Tryd.prog 133 = some 8 := by kernel_rfl
@[go_sem] theorem Tryd.agg133 : isAggB Tryd.prog 133 = some false := by kernel_rfl
@[go_sem] theorem Tryd.zero133 : zeroC Tryd.prog 133 = some [.nilf] := by kernel_rfl
theorem Tryd.nk133 : nilKind Tryd.prog 133 = 3 := by kernel_rfl
@[go_sem] theorem Tryd.eqn133 (a : V) : binV Tryd.prog .eql 133 a .nilf = (nilK 3 a).map .bool := (binV_nil _ _ Tryd.nk133 (by simp) a).1
@[go_sem] theorem Tryd.nen133 (a : V) : binV Tryd.prog .neq 133 a .nilf = (nilK 3 a).map fun r => .bool (!r) := (binV_nil _ _ Tryd.nk133 (by simp) a).2
theorem Tryd.shape134 : shapeOf Tryd.prog 134 = some (false, 1) := by kernel_rfl
@[go_sem] theorem Tryd.load134 (H : Heap) (a : V) : readV Tryd.prog H 134 a = loadK (some (false, 1)) (obOf H a) a := readV_K Tryd.shape134 H a
@[go_sem] theorem Tryd.sz134 : szOf Tryd.prog 134 = some 1 := by kernel_rfl
@[go_sem] theorem Tryd.bytes134 : bytesV Tryd.prog 134 = some 8 := by kernel_rfl
@[go_sem] theorem Tryd.agg134 : isAggB Tryd.prog 134 = some false := by kernel_rfl
@[go_sem] theorem Tryd.zero134 : zeroC Tryd.prog 134 = some [.nilf] := by kernel_rfl
theorem Tryd.nk134 : nilKind Tryd.prog 134 = 3 := by kernel_rfl
@[go_sem] theorem Tryd.eqn134 (a : V) : binV Tryd.prog .eql 134 a .nilf = (nilK 3 a).map .bool := (binV_nil _ _ Tryd.nk134 (by simp) a).1
@[go_sem] theorem Tryd.nen134 (a : V) : binV Tryd.prog .neq 134 a .nilf = (nilK 3 a).map fun r => .bool (!r) := (binV_nil _ _ Tryd.nk134 (by simp) a).2
theorem Tryd.shape135 : shapeOf Tryd.prog 135 = some (true, 2) := by kernel_rfl
@[go_sem] theorem Tryd.load135 (H : Heap) (a : V) : readV Tryd.prog H 135 a = loadK (some (true, 2)) (obOf H a) a := readV_K Tryd.shape135 H a
@[go_sem] theorem Tryd.sz135 : szOf Tryd.prog 135 = some 2 := by kernel_rfl
@[go_sem] theorem Tryd.bytes135 : bytesV Tryd.prog 135 = some 24 := by kernel_rfl
@[go_sem] theorem Tryd.agg135 : isAggB Tryd.prog 135 = some true := by kernel_rfl
@[go_sem] theorem Tryd.zero135 : zeroC Tryd.prog 135 = some [.str [], .int .u8 0] := by kernel_rfl
theorem Tryd.zeroV135 : zeroV Tryd.prog 135 = some (.agg [.str [], .int .u8 0]) := by kernel_rfl
@[go_sem] theorem Tryd.bld135 (l : List (Nat × V)) : buildV Tryd.prog 135 l = (fillV (tblP [(0, 1), (1, 1)]) [.str [], .int .u8 0] l).map .agg := buildV_K (P := Tryd.prog) (t := 135) (tbl := [(0, 1), (1, 1)]) (z := [.str [], .int .u8 0]) (by kernel_rfl) (by kernel_rfl) l
theorem Tryd.fld135_0 : fldOf Tryd.prog 135 0 = some (0, false, 1) := by kernel_rfl
@[go_sem] theorem Tryd.fa135_0 (a : V) : fieldAddrV Tryd.prog 135 a 0 = fldK (some (0, false, 1)) a := fieldAddrV_K Tryd.fld135_0 a
@[go_sem] theorem Tryd.fv135_0 (l : List V) : fieldV Tryd.prog 135 (.agg l) 0 = partC false 1 l 0 := fieldV_K Tryd.fld135_0 l
theorem Tryd.fld135_1 : fldOf Tryd.prog 135 1 = some (1, false, 1) := by kernel_rfl
@[go_sem] theorem Tryd.fa135_1 (a : V) : fieldAddrV Tryd.prog 135 a 1 = fldK (some (1, false, 1)) a := fieldAddrV_K Tryd.fld135_1 a
@[go_sem] theorem Tryd.fv135_1 (l : List V) : fieldV Tryd.prog 135 (.agg l) 1 = partC false 1 l 1 := fieldV_K Tryd.fld135_1 l
theorem Tryd.shape136 : shapeOf Tryd.prog 136 = some (true, 2) := by kernel_rfl
@[go_sem] theorem Tryd.load136 (H : Heap) (a : V) : readV Tryd.prog H 136 a = loadK (some (true, 2)) (obOf H a) a := readV_K Tryd.shape136 H a
@[go_sem] theorem Tryd.sz136 : szOf Tryd.prog 136 = some 2 := by kernel_rfl
@[go_sem] theorem Tryd.bytes136 : bytesV Tryd.prog 136 = some 24 := by kernel_rfl
@[go_sem] theorem Tryd.agg136 : isAggB Tryd.prog 136 = some true := by kernel_rfl
@[go_sem] theorem Tryd.zero136 : zeroC Tryd.prog 136 = some [.str [], .int .u8 0] := by kernel_rfl
theorem Tryd.zeroV136 : zeroV Tryd.prog 136 = some (.agg [.str [], .int .u8 0]) := by kernel_rfl
@[go_sem] theorem Tryd.bld136 (l : List (Nat × V)) : buildV Tryd.prog 136 l = (fillV (tblP [(0, 1), (1, 1)]) [.str [], .int .u8 0] l).map .agg := buildV_K (P := Tryd.prog) (t := 136) (tbl := [(0, 1), (1, 1)]) (z := [.str [], .int .u8 0]) (by kernel_rfl) (by kernel_rfl) l
theorem Tryd.fld136_0 : fldOf Tryd.prog 136 0 = some (0, false, 1) := by kernel_rfl
@[go_sem] theorem Tryd.fa136_0 (a : V) : fieldAddrV Tryd.prog 136 a 0 = fldK (some (0, false, 1)) a := fieldAddrV_K Tryd.fld136_0 a
@[go_sem] theorem Tryd.fv136_0 (l : List V) : fieldV Tryd.prog 136 (.agg l) 0 = partC false 1 l 0 := fieldV_K Tryd.fld136_0 l
theorem Tryd.fld136_1 : fldOf Tryd.prog 136 1 = some (1, false, 1) := by kernel_rfl
@[go_sem] theorem Tryd.fa136_1 (a : V) : fieldAddrV Tryd.prog 136 a 1 = fldK (some (1, false, 1)) a := fieldAddrV_K Tryd.fld136_1 a
@[go_sem] theorem Tryd.fv136_1 (l : List V) : fieldV Tryd.prog 136 (.agg l) 1 = partC false 1 l 1 := fieldV_K Tryd.fld136_1 l
theorem Tryd.shape137 : shapeOf Tryd.prog 137 = some (false, 1) := by kernel_rfl
@[go_sem] theorem Tryd.load137 (H : Heap) (a : V) : readV Tryd.prog H 137 a = loadK (some (false, 1)) (obOf H a) a := readV_K Tryd.shape137 H a
@[go_sem] theorem Tryd.sz137 : szOf Tryd.prog 137 = some 1 := by kernel_rfl
@[go_sem] theorem Tryd.bytes137 : bytesV Tryd.prog 137 = some 8 := by kernel_rfl
@[go_sem] theorem Tryd.agg137 : isAggB Tryd.prog 137 = some false := by kernel_rfl
@[go_sem] theorem Tryd.zero137 : zeroC Tryd.prog 137 = some [.nilp] := by kernel_rfl
theorem Tryd.shape138 : shapeOf Tryd.prog 138 = some (false, 1) := by kernel_rfl
@[go_sem] theorem Tryd.load138 (H : Heap) (a : V) : readV Tryd.prog H 138 a = loadK (some (false, 1)) (obOf H a) a := readV_K Tryd.shape138 H a
@[go_sem] theorem Tryd.sz138 : szOf Tryd.prog 138 = some 1 := by kernel_rfl
@[go_sem] theorem Tryd.bytes138 : bytesV Tryd.prog 138 = some 8 := by kernel_rfl
@[go_sem] theorem Tryd.agg138 : isAggB Tryd.prog 138 = some false := by kernel_rfl
@[go_sem] theorem Tryd.zero138 : zeroC Tryd.prog 138 = some [.nilp] := by kernel_rfl
theorem Tryd.nk138 : nilKind Tryd.prog 138 = 1 := by kernel_rfl
@[go_sem] theorem Tryd.eqn138 (a : V) : binV Tryd.prog .eql 138 a .nilp = (nilK 1 a).map .bool := (binV_nil _ _ Tryd.nk138 (by simp) a).1
@[go_sem] theorem Tryd.nen138 (a : V) : binV Tryd.prog .neq 138 a .nilp = (nilK 1 a).map fun r => .bool (!r) := (binV_nil _ _ Tryd.nk138 (by simp) a).2
theorem Tryd.shape139 : shapeOf Tryd.prog 139 = some (false, 1) := by kernel_rfl
@[go_sem] theorem Tryd.load139 (H : Heap) (a : V) : readV Tryd.prog H 139 a = loadK (some (false, 1)) (obOf H a) a := readV_K Tryd.shape139 H a
@[go_sem] theorem Tryd.sz139 : szOf Tryd.prog 139 = some 1 := by kernel_rfl
@[go_sem] theorem Tryd.bytes139 : bytesV Tryd.prog 139 = some 8 := by kernel_rfl
@[go_sem] theorem Tryd.agg139 : isAggB Tryd.prog 139 = some false := by kernel_rfl
@[go_sem] theorem Tryd.zero139 : zeroC Tryd.prog 139 = some [.nilf] := by kernel_rfl
theorem Tryd.nk139 : nilKind Tryd.prog 139 = 3 := by kernel_rfl
@[go_sem] theorem Tryd.eqn139 (a : V) : binV Tryd.prog .eql 139 a .nilf = (nilK 3 a).map .bool := (binV_nil _ _ Tryd.nk139 (by simp) a).1
@[go_sem] theorem Tryd.nen139 (a : V) : binV Tryd.prog .neq 139 a .nilf = (nilK 3 a).map fun r => .bool (!r) := (binV_nil _ _ Tryd.nk139 (by simp) a).2
theorem Tryd.shape140 : shapeOf Tryd.prog 140 = some (false, 1) := by kernel_rfl
@[go_sem] theorem Tryd.load140 (H : Heap) (a : V) : readV Tryd.prog H 140 a = loadK (some (false, 1)) (obOf H a) a := readV_K Tryd.shape140 H a
@[go_sem] theorem Tryd.sz140 : szOf Tryd.prog 140 = some 1 := by kernel_rfl
@[go_sem] theorem Tryd.bytes140 : bytesV Tryd.prog 140 = some 2 := by kernel_rfl
@[go_sem] theorem Tryd.agg140 : isAggB Tryd.prog 140 = some false := by kernel_rfl
@[go_sem] theorem Tryd.zero140 : zeroC Tryd.prog 140 = some [.int .u16 0] := by kernel_rfl
theorem Tryd.shape141 : shapeOf Tryd.prog 141 = some (true, 5) := by kernel_rfl
@[go_sem] theorem Tryd.load141 (H : Heap) (a : V) : readV Tryd.prog H 141 a = loadK (some (true, 5)) (obOf H a) a := readV_K Tryd.shape141 H a
@[go_sem] theorem Tryd.sz141 : szOf Tryd.prog 141 = some 5 := by kernel_rfl
@[go_sem] theorem Tryd.bytes141 : bytesV Tryd.prog 141 = some 16 := by kernel_rfl
@[go_sem] theorem Tryd.agg141 : isAggB Tryd.prog 141 = some true := by kernel_rfl
@[go_sem] theorem Tryd.zero141 : zeroC Tryd.prog 141 = some [.int .i32 0, .int .u16 0, .int .u16 0, .int .u32 0, .int .u32 0] := by kernel_rfl
theorem Tryd.zeroV141 : zeroV Tryd.prog 141 = some (.agg [.int .i32 0, .int .u16 0, .int .u16 0, .int .u32 0, .int .u32 0]) := by kernel_rfl
@[go_sem] theorem Tryd.bld141 (l : List (Nat × V)) : buildV Tryd.prog 141 l = (fillV (tblP [(0, 1), (1, 1), (2, 1), (3, 1), (4, 1)]) [.int .i32 0, .int .u16 0, .int .u16 0, .int .u32 0, .int .u32 0] l).map .agg := buildV_K (P := Tryd.prog) (t := 141) (tbl := [(0, 1), (1, 1), (2, 1), (3, 1), (4, 1)]) (z := [.int .i32 0, .int .u16 0, .int .u16 0, .int .u32 0, .int .u32 0]) (by kernel_rfl) (by kernel_rfl) l
theorem Tryd.fld141_0 : fldOf Tryd.prog 141 0 = some (0, false, 1) := by kernel_rfl
@[go_sem] theorem Tryd.fa141_0 (a : V) : fieldAddrV Tryd.prog 141 a 0 = fldK (some (0, false, 1)) a := fieldAddrV_K Tryd.fld141_0 a
@[go_sem] theorem Tryd.fv141_0 (l : List V) : fieldV Tryd.prog 141 (.agg l) 0 = partC false 1 l 0 := fieldV_K Tryd.fld141_0 l
theorem Tryd.fld141_1 : fldOf Tryd.prog 141 1 = some (1, false, 1) := by kernel_rfl
@[go_sem] theorem Tryd.fa141_1 (a : V) : fieldAddrV Tryd.prog 141 a 1 = fldK (some (1, false, 1)) a := fieldAddrV_K Tryd.fld141_1 a
@[go_sem] theorem Tryd.fv141_1 (l : List V) : fieldV Tryd.prog 141 (.agg l) 1 = partC false 1 l 1 := fieldV_K Tryd.fld141_1 l
theorem Tryd.fld141_2 : fldOf Tryd.prog 141 2 = some (2, false, 1) := by kernel_rfl
@[go_sem] theorem Tryd.fa141_2 (a : V) : fieldAddrV Tryd.prog 141 a 2 = fldK (some (2, false, 1)) a := fieldAddrV_K Tryd.fld141_2 a
@[go_sem] theorem Tryd.fv141_2 (l : List V) : fieldV Tryd.prog 141 (.agg l) 2 = partC false 1 l 2 := fieldV_K Tryd.fld141_2 l
theorem Tryd.fld141_3 : fldOf Tryd.prog 141 3 = some (3, false, 1) := by kernel_rfl
@[go_sem] theorem Tryd.fa141_3 (a : V) : fieldAddrV Tryd.prog 141 a 3 = fldK (some (3, false, 1)) a := fieldAddrV_K Tryd.fld141_3 a
@[go_sem] theorem Tryd.fv141_3 (l : List V) : fieldV Tryd.prog 141 (.agg l) 3 = partC false 1 l 3 := fieldV_K Tryd.fld141_3 l
theorem Tryd.fld141_4 : fldOf Tryd.prog 141 4 = some (4, false, 1) := by kernel_rfl
@[go_sem] theorem Tryd.fa141_4 (a : V) : fieldAddrV Tryd.prog 141 a 4 = fldK (some (4, false, 1)) a := fieldAddrV_K Tryd.fld141_4 a
@[go_sem] theorem Tryd.fv141_4 (l : List V) : fieldV Tryd.prog 141 (.agg l) 4 = partC false 1 l 4 := fieldV_K Tryd.fld141_4 l
theorem Tryd.shape142 : shapeOf Tryd.prog 142 = some (true, 5) := by kernel_rfl
@[go_sem] theorem Tryd.load142 (H : Heap) (a : V) : readV Tryd.prog H 142 a = loadK (some (true, 5)) (obOf H a) a := readV_K Tryd.shape142 H a
@[go_sem] theorem Tryd.sz142 : szOf Tryd.prog 142 = some 5 := by kernel_rfl
@[go_sem] theorem Tryd.bytes142 : bytesV Tryd.prog 142 = some 16 := by kernel_rfl
@[go_sem] theorem Tryd.agg142 : isAggB Tryd.prog 142 = some true := by kernel_rfl
@[go_sem] theorem Tryd.zero142 : zeroC Tryd.prog 142 = some [.int .i32 0, .int .u16 0, .int .u16 0, .int .u32 0, .int .u32 0] := by kernel_rfl
theorem Tryd.zeroV142 : zeroV Tryd.prog 142 = some (.agg [.int .i32 0, .int .u16 0, .int .u16 0, .int .u32 0, .int .u32 0]) := by kernel_rfl
@[go_sem] theorem Tryd.bld142 (l : List (Nat × V)) : buildV Tryd.prog 142 l = (fillV (tblP [(0, 1), (1, 1), (2, 1), (3, 1), (4, 1)]) [.int .i32 0, .int .u16 0, .int .u16 0, .int .u32 0, .int .u32 0] l).map .agg := buildV_K (P := Tryd.prog) (t := 142) (tbl := [(0, 1), (1, 1), (2, 1), (3, 1), (4, 1)]) (z := [.int .i32 0, .int .u16 0, .int .u16 0, .int .u32 0, .int .u32 0]) (by kernel_rfl) (by kernel_rfl) l
theorem Tryd.fld142_0 : fldOf Tryd.prog 142 0 = some (0, false, 1) := by kernel_rfl
@[go_sem] theorem Tryd.fa142_0 (a : V) : fieldAddrV Tryd.prog 142 a 0 = fldK (some (0, false, 1)) a := fieldAddrV_K Tryd.fld142_0 a
@[go_sem] theorem Tryd.fv142_0 (l : List V) : fieldV Tryd.prog 142 (.agg l) 0 = partC false 1 l 0 := fieldV_K Tryd.fld142_0 l
theorem Tryd.fld142_1 : fldOf Tryd.prog 142 1 = some (1, false, 1) := by kernel_rfl
@[go_sem] theorem Tryd.fa142_1 (a : V) : fieldAddrV Tryd.prog 142 a 1 = fldK (some (1, false, 1)) a := fieldAddrV_K Tryd.fld142_1 a
@[go_sem] theorem Tryd.fv142_1 (l : List V) : fieldV Tryd.prog 142 (.agg l) 1 = partC false 1 l 1 := fieldV_K Tryd.fld142_1 l
theorem Tryd.fld142_2 : fldOf Tryd.prog 142 2 = some (2, false, 1) := by kernel_rfl
@[go_sem] theorem Tryd.fa142_2 (a : V) : fieldAddrV Tryd.prog 142 a 2 = fldK (some (2, false, 1)) a := fieldAddrV_K Tryd.fld142_2 a
@[go_sem] theorem Tryd.fv142_2 (l : List V) : fieldV Tryd.prog 142 (.agg l) 2 = partC false 1 l 2 := fieldV_K Tryd.fld142_2 l
theorem Tryd.fld142_3 : fldOf Tryd.prog 142 3 = some (3, false, 1) := by kernel_rfl
@[go_sem] theorem Tryd.fa142_3 (a : V) : fieldAddrV Tryd.prog 142 a 3 = fldK (some (3, false, 1)) a := fieldAddrV_K Tryd.fld142_3 a
@[go_sem] theorem Tryd.fv142_3 (l : List V) : fieldV Tryd.prog 142 (.agg l) 3 = partC false 1 l 3 := fieldV_K Tryd.fld142_3 l
theorem Tryd.fld142_4 : fldOf Tryd.prog 142 4 = some (4, false, 1) := by kernel_rfl
@[go_sem] theorem Tryd.fa142_4 (a : V) : fieldAddrV Tryd.prog 142 a 4 = fldK (some (4, false, 1)) a := fieldAddrV_K Tryd.fld142_4 a
@[go_sem] theorem Tryd.fv142_4 (l : List V) : fieldV Tryd.prog 142 (.agg l) 4 = partC false 1 l 4 := fieldV_K Tryd.fld142_4 l
theorem Tryd.shape143 : shapeOf Tryd.prog 143 = some (false, 1) := by kernel_rfl
@[go_sem] theorem Tryd.load143 (H : Heap) (a : V) : readV Tryd.prog H 143 a = loadK (some (false, 1)) (obOf H a) a := readV_K Tryd.shape143 H a
@[go_sem] theorem Tryd.sz143 : szOf Tryd.prog 143 = some 1 := by kernel_rfl
@[go_sem] theorem Tryd.bytes143 : bytesV Tryd.prog 143 = some 24 := by kernel_rfl
@[go_sem] theorem Tryd.agg143 : isAggB Tryd.prog 143 = some false := by kernel_rfl
@[go_sem] theorem Tryd.zero143 : zeroC Tryd.prog 143 = some [.nils] := by kernel_rfl
theorem Tryd.nk143 : nilKind Tryd.prog 143 = 2 := by kernel_rfl
@[go_sem] theorem Tryd.eqn143 (a : V) : binV Tryd.prog .eql 143 a .nils = (nilK 2 a).map .bool := (binV_nil _ _ Tryd.nk143 (by simp) a).1
@[go_sem] theorem Tryd.nen143 (a : V) : binV Tryd.prog .neq 143 a .nils = (nilK 2 a).map fun r => .bool (!r) := (binV_nil _ _ Tryd.nk143 (by simp) a).2
theorem Tryd.elem143 : elemOf Tryd.prog 143 = some 4 := by kernel_rfl
@[go_sem] theorem Tryd.idx143 (a i : V) : indexAddrV Tryd.prog 143 a i = idxK (some 4) a i := indexAddrV_K Tryd.elem143 a i
@[go_sem] theorem Tryd.len143 (a : V) : lenV Tryd.prog 143 a = lenK true a := lenV_slice Tryd.elem143 a
@[go_sem] theorem Tryd.sl143 (a : V) (lo hi : Option V) : sliceV Tryd.prog 143 a lo hi none = slK 4 a lo hi := sliceV_K Tryd.elem143 a lo hi
@[go_sem] theorem Tryd.bs143 (n : Nat) (l : List (Nat × V)) : bsCells Tryd.prog 143 n l = bsK 4 [.int .i32 0, .int .i32 0, .int .i32 0, .int .i32 0] n l := bsCells_K (P := Tryd.prog) (t := 143) (e := 146) (m := 4) (z := [.int .i32 0, .int .i32 0, .int .i32 0, .int .i32 0]) (by kernel_rfl) (by kernel_rfl) (by kernel_rfl) rfl n l
@[go_sem] theorem Tryd.ms143 (a b : V) : msCells Tryd.prog 143 a b = msK 4 16 [.int .i32 0, .int .i32 0, .int .i32 0, .int .i32 0] a b := msCells_K (P := Tryd.prog) (t := 143) (e := 146) (E := 4) (bytes := 16) (z := [.int .i32 0, .int .i32 0, .int .i32 0, .int .i32 0]) (by kernel_rfl) (by kernel_rfl) (by kernel_rfl) (by kernel_rfl) rfl a b
theorem Tryd.app143 : appOf Tryd.prog [143, 143] = some (4, 16) := by kernel_rfl
@[go_sem] theorem Tryd.appc143 (E : Ent) (ops : Array Oper) (Q : AS → Prop) (rest : List Oper) (e : Nat) (τ : Nat → V) (H : Heap) (a b : V) : appC Tryd.prog E ops Q rest e τ H [143, 143] a b = appE Tryd.prog E ops Q rest e τ H 4 16 a (srcCells H 4 b) (obS H a) := appC_E ops Tryd.app143 e a b
theorem Tryd.shape144 : shapeOf Tryd.prog 144 = some (false, 1) := by kernel_rfl
@[go_sem] theorem Tryd.load144 (H : Heap) (a : V) : readV Tryd.prog H 144 a = loadK (some (false, 1)) (obOf H a) a := readV_K Tryd.shape144 H a
@[go_sem] theorem Tryd.sz144 : szOf Tryd.prog 144 = some 1 := by kernel_rfl
@[go_sem] theorem Tryd.bytes144 : bytesV Tryd.prog 144 = some 4 := by kernel_rfl
@[go_sem] theorem Tryd.agg144 : isAggB Tryd.prog 144 = some false := by kernel_rfl
@[go_sem] theorem Tryd.zero144 : zeroC Tryd.prog 144 = some [.int .i32 0] := by kernel_rfl
theorem Tryd.shape145 : shapeOf Tryd.prog 145 = some (true, 4) := by kernel_rfl
@[go_sem] theorem Tryd.load145 (H : Heap) (a : V) : readV Tryd.prog H 145 a = loadK (some (true, 4)) (obOf H a) a := readV_K Tryd.shape145 H a
@[go_sem] theorem Tryd.sz145 : szOf Tryd.prog 145 = some 4 := by kernel_rfl
@[go_sem] theorem Tryd.bytes145 : bytesV Tryd.prog 145 = some 16 := by kernel_rfl
@[go_sem] theorem Tryd.agg145 : isAggB Tryd.prog 145 = some true := by kernel_rfl
@[go_sem] theorem Tryd.zero145 : zeroC Tryd.prog 145 = some [.int .i32 0, .int .i32 0, .int .i32 0, .int .i32 0] := by kernel_rfl
theorem Tryd.zeroV145 : zeroV Tryd.prog 145 = some (.agg [.int .i32 0, .int .i32 0, .int .i32 0, .int .i32 0]) := by kernel_rfl
@[go_sem] theorem Tryd.bld145 (l : List (Nat × V)) : buildV Tryd.prog 145 l = (fillV (tblP [(0, 1), (1, 1), (2, 1), (3, 1)]) [.int .i32 0, .int .i32 0, .int .i32 0, .int .i32 0] l).map .agg := buildV_K (P := Tryd.prog) (t := 145) (tbl := [(0, 1), (1, 1), (2, 1), (3, 1)]) (z := [.int .i32 0, .int .i32 0, .int .i32 0, .int .i32 0]) (by kernel_rfl) (by kernel_rfl) l
theorem Tryd.fld145_0 : fldOf Tryd.prog 145 0 = some (0, false, 1) := by kernel_rfl
@[go_sem] theorem Tryd.fa145_0 (a : V) : fieldAddrV Tryd.prog 145 a 0 = fldK (some (0, false, 1)) a := fieldAddrV_K Tryd.fld145_0 a
@[go_sem] theorem Tryd.fv145_0 (l : List V) : fieldV Tryd.prog 145 (.agg l) 0 = partC false 1 l 0 := fieldV_K Tryd.fld145_0 l
theorem Tryd.fld145_1 : fldOf Tryd.prog 145 1 = some (1, false, 1) := by kernel_rfl
@[go_sem] theorem Tryd.fa145_1 (a : V) : fieldAddrV Tryd.prog 145 a 1 = fldK (some (1, false, 1)) a := fieldAddrV_K Tryd.fld145_1 a
@[go_sem] theorem Tryd.fv145_1 (l : List V) : fieldV Tryd.prog 145 (.agg l) 1 = partC false 1 l 1 := fieldV_K Tryd.fld145_1 l
theorem Tryd.fld145_2 : fldOf Tryd.prog 145 2 = some (2, false, 1) := by kernel_rfl
@[go_sem] theorem Tryd.fa145_2 (a : V) : fieldAddrV Tryd.prog 145 a 2 = fldK (some (2, false, 1)) a := fieldAddrV_K Tryd.fld145_2 a
@[go_sem] theorem Tryd.fv145_2 (l : List V) : fieldV Tryd.prog 145 (.agg l) 2 = partC false 1 l 2 := fieldV_K Tryd.fld145_2 l
theorem Tryd.fld145_3 : fldOf Tryd.prog 145 3 = some (3, false, 1) := by kernel_rfl
@[go_sem] theorem Tryd.fa145_3 (a : V) : fieldAddrV Tryd.prog 145 a 3 = fldK (some (3, false, 1)) a := fieldAddrV_K Tryd.fld145_3 a
@[go_sem] theorem Tryd.fv145_3 (l : List V) : fieldV Tryd.prog 145 (.agg l) 3 = partC false 1 l 3 := fieldV_K Tryd.fld145_3 l
theorem Tryd.shape146 : shapeOf Tryd.prog 146 = some (true, 4) := by kernel_rfl
@[go_sem] theorem Tryd.load146 (H : Heap) (a : V) : readV Tryd.prog H 146 a = loadK (some (true, 4)) (obOf H a) a := readV_K Tryd.shape146 H a
@[go_sem] theorem Tryd.sz146 : szOf Tryd.prog 146 = some 4 := by kernel_rfl
@[go_sem] theorem Tryd.bytes146 : bytesV Tryd.prog 146 = some 16 := by kernel_rfl
@[go_sem] theorem Tryd.agg146 : isAggB Tryd.prog 146 = some true := by kernel_rfl
@[go_sem] theorem Tryd.zero146 : zeroC Tryd.prog 146 = some [.int .i32 0, .int .i32 0, .int .i32 0, .int .i32 0] := by kernel_rfl
theorem Tryd.zeroV146 : zeroV Tryd.prog 146 = some (.agg [.int .i32 0, .int .i32 0, .int .i32 0, .int .i32 0]) := by kernel_rfl
@[go_sem] theorem Tryd.bld146 (l : List (Nat × V)) : buildV Tryd.prog 146 l = (fillV (tblP [(0, 1), (1, 1), (2, 1), (3, 1)]) [.int .i32 0, .int .i32 0, .int .i32 0, .int .i32 0] l).map .agg := buildV_K (P := Tryd.prog) (t := 146) (tbl := [(0, 1), (1, 1), (2, 1), (3, 1)]) (z := [.int .i32 0, .int .i32 0, .int .i32 0, .int .i32 0]) (by kernel_rfl) (by kernel_rfl) l
theorem Tryd.fld146_0 : fldOf Tryd.prog 146 0 = some (0, false, 1) := by kernel_rfl
@[go_sem] theorem Tryd.fa146_0 (a : V) : fieldAddrV Tryd.prog 146 a 0 = fldK (some (0, false, 1)) a := fieldAddrV_K Tryd.fld146_0 a
@[go_sem] theorem Tryd.fv146_0 (l : List V) : fieldV Tryd.prog 146 (.agg l) 0 = partC false 1 l 0 := fieldV_K Tryd.fld146_0 l
theorem Tryd.fld146_1 : fldOf Tryd.prog 146 1 = some (1, false, 1) := by kernel_rfl
@[go_sem] theorem Tryd.fa146_1 (a : V) : fieldAddrV Tryd.prog 146 a 1 = fldK (some (1, false, 1)) a := fieldAddrV_K Tryd.fld146_1 a
@[go_sem] theorem Tryd.fv146_1 (l : List V) : fieldV Tryd.prog 146 (.agg l) 1 = partC false 1 l 1 := fieldV_K Tryd.fld146_1 l
theorem Tryd.fld146_2 : fldOf Tryd.prog 146 2 = some (2, false, 1) := by kernel_rfl
@[go_sem] theorem Tryd.fa146_2 (a : V) : fieldAddrV Tryd.prog 146 a 2 = fldK (some (2, false, 1)) a := fieldAddrV_K Tryd.fld146_2 a
@[go_sem] theorem Tryd.fv146_2 (l : List V) : fieldV Tryd.prog 146 (.agg l) 2 = partC false 1 l 2 := fieldV_K Tryd.fld146_2 l
theorem Tryd.fld146_3 : fldOf Tryd.prog 146 3 = some (3, false, 1) := by kernel_rfl
@[go_sem] theorem Tryd.fa146_3 (a : V) : fieldAddrV Tryd.prog 146 a 3 = fldK (some (3, false, 1)) a := fieldAddrV_K Tryd.fld146_3 a
@[go_sem] theorem Tryd.fv146_3 (l : List V) : fieldV Tryd.prog 146 (.agg l) 3 = partC false 1 l 3 := fieldV_K Tryd.fld146_3 l
@[go_sem] theorem Tryd.cv2_3 (k : IntKind) (n : Int) : convV Tryd.prog 2 3 (.int k n) = some (.int .i64 (IntKind.wrap .i64 n)) := conv_int (P := Tryd.prog) (s := 2) (d := 3) (by kernel_rfl) (by kernel_rfl) k n
@[go_sem] theorem Tryd.cv2_5 (k : IntKind) (n : Int) : convV Tryd.prog 2 5 (.int k n) = some (.int .u8 (IntKind.wrap .u8 n)) := conv_int (P := Tryd.prog) (s := 2) (d := 5) (by kernel_rfl) (by kernel_rfl) k n
@[go_sem] theorem Tryd.cv2_6 (k : IntKind) (n : Int) : convV Tryd.prog 2 6 (.int k n) = some (.int .u8 (IntKind.wrap .u8 n)) := conv_int (P := Tryd.prog) (s := 2) (d := 6) (by kernel_rfl) (by kernel_rfl) k n
@[go_sem] theorem Tryd.cv2_12 (k : IntKind) (n : Int) : convV Tryd.prog 2 12 (.int k n) = some (.int .u64 (IntKind.wrap .u64 n)) := conv_int (P := Tryd.prog) (s := 2) (d := 12) (by kernel_rfl) (by kernel_rfl) k n
@[go_sem] theorem Tryd.cv2_21 (k : IntKind) (n : Int) : convV Tryd.prog 2 21 (.int k n) = some (.int .i32 (IntKind.wrap .i32 n)) := conv_int (P := Tryd.prog) (s := 2) (d := 21) (by kernel_rfl) (by kernel_rfl) k n
@[go_sem] theorem Tryd.cv2_24 (k : IntKind) (n : Int) : convV Tryd.prog 2 24 (.int k n) = some (.int .i64 (IntKind.wrap .i64 n)) := conv_int (P := Tryd.prog) (s := 2) (d := 24) (by kernel_rfl) (by kernel_rfl) k n
@[go_sem] theorem Tryd.cv2_53 (k : IntKind) (n : Int) : convV Tryd.prog 2 53 (.int k n) = some (.int .u64 (IntKind.wrap .u64 n)) := conv_int (P := Tryd.prog) (s := 2) (d := 53) (by kernel_rfl) (by kernel_rfl) k n
@[go_sem] theorem Tryd.cv2_70 (k : IntKind) (n : Int) : convV Tryd.prog 2 70 (.int k n) = some (.int .u64 (IntKind.wrap .u64 n)) := conv_int (P := Tryd.prog) (s := 2) (d := 70) (by kernel_rfl) (by kernel_rfl) k n
@[go_sem] theorem Tryd.cv2_71 (k : IntKind) (n : Int) : convV Tryd.prog 2 71 (.int k n) = some (.int .i64 (IntKind.wrap .i64 n)) := conv_int (P := Tryd.prog) (s := 2) (d := 71) (by kernel_rfl) (by kernel_rfl) k n
@[go_sem] theorem Tryd.cv2_104 (k : IntKind) (n : Int) : convV Tryd.prog 2 104 (.int k n) = some (.int .u32 (IntKind.wrap .u32 n)) := conv_int (P := Tryd.prog) (s := 2) (d := 104) (by kernel_rfl) (by kernel_rfl) k n
@[go_sem] theorem Tryd.cv2_122 (k : IntKind) (n : Int) : convV Tryd.prog 2 122 (.int k n) = some (.int .u8 (IntKind.wrap .u8 n)) := conv_int (P := Tryd.prog) (s := 2) (d := 122) (by kernel_rfl) (by kernel_rfl) k n
@[go_sem] theorem Tryd.cv2_123 (k : IntKind) (n : Int) : convV Tryd.prog 2 123 (.int k n) = some (.int .u8 (IntKind.wrap .u8 n)) := conv_int (P := Tryd.prog) (s := 2) (d := 123) (by kernel_rfl) (by kernel_rfl) k n
@[go_sem] theorem Tryd.cv2_125 (k : IntKind) (n : Int) : convV Tryd.prog 2 125 (.int k n) = some (.int .i32 (IntKind.wrap .i32 n)) := conv_int (P := Tryd.prog) (s := 2) (d := 125) (by kernel_rfl) (by kernel_rfl) k n
@[go_sem] theorem Tryd.cv2_126 (k : IntKind) (n : Int) : convV Tryd.prog 2 126 (.int k n) = some (.int .i32 (IntKind.wrap .i32 n)) := conv_int (P := Tryd.prog) (s := 2) (d := 126) (by kernel_rfl) (by kernel_rfl) k n
@[go_sem] theorem Tryd.cv2_140 (k : IntKind) (n : Int) : convV Tryd.prog 2 140 (.int k n) = some (.int .u16 (IntKind.wrap .u16 n)) := conv_int (P := Tryd.prog) (s := 2) (d := 140) (by kernel_rfl) (by kernel_rfl) k n
@[go_sem] theorem Tryd.cv2_144 (k : IntKind) (n : Int) : convV Tryd.prog 2 144 (.int k n) = some (.int .i32 (IntKind.wrap .i32 n)) := conv_int (P := Tryd.prog) (s := 2) (d := 144) (by kernel_rfl) (by kernel_rfl) k n
@[go_sem] theorem Tryd.cv3_2 (k : IntKind) (n : Int) : convV Tryd.prog 3 2 (.int k n) = some (.int .i64 (IntKind.wrap .i64 n)) := conv_int (P := Tryd.prog) (s := 3) (d := 2) (by kernel_rfl) (by kernel_rfl) k n
@[go_sem] theorem Tryd.cv3_5 (k : IntKind) (n : Int) : convV Tryd.prog 3 5 (.int k n) = some (.int .u8 (IntKind.wrap .u8 n)) := conv_int (P := Tryd.prog) (s := 3) (d := 5) (by kernel_rfl) (by kernel_rfl) k n
@[go_sem] theorem Tryd.cv3_6 (k : IntKind) (n : Int) : convV Tryd.prog 3 6 (.int k n) = some (.int .u8 (IntKind.wrap .u8 n)) := conv_int (P := Tryd.prog) (s := 3) (d := 6) (by kernel_rfl) (by kernel_rfl) k n
@[go_sem] theorem Tryd.cv3_12 (k : IntKind) (n : Int) : convV Tryd.prog 3 12 (.int k n) = some (.int .u64 (IntKind.wrap .u64 n)) := conv_int (P := Tryd.prog) (s := 3) (d := 12) (by kernel_rfl) (by kernel_rfl) k n
@[go_sem] theorem Tryd.cv3_21 (k : IntKind) (n : Int) : convV Tryd.prog 3 21 (.int k n) = some (.int .i32 (IntKind.wrap .i32 n)) := conv_int (P := Tryd.prog) (s := 3) (d := 21) (by kernel_rfl) (by kernel_rfl) k n
@[go_sem] theorem Tryd.cv3_24 (k : IntKind) (n : Int) : convV Tryd.prog 3 24 (.int k n) = some (.int .i64 (IntKind.wrap .i64 n)) := conv_int (P := Tryd.prog) (s := 3) (d := 24) (by kernel_rfl) (by kernel_rfl) k n
@[go_sem] theorem Tryd.cv3_53 (k : IntKind) (n : Int) : convV Tryd.prog 3 53 (.int k n) = some (.int .u64 (IntKind.wrap .u64 n)) := conv_int (P := Tryd.prog) (s := 3) (d := 53) (by kernel_rfl) (by kernel_rfl) k n
@[go_sem] theorem Tryd.cv3_70 (k : IntKind) (n : Int) : convV Tryd.prog 3 70 (.int k n) = some (.int .u64 (IntKind.wrap .u64 n)) := conv_int (P := Tryd.prog) (s := 3) (d := 70) (by kernel_rfl) (by kernel_rfl) k n
@[go_sem] theorem Tryd.cv3_71 (k : IntKind) (n : Int) : convV Tryd.prog 3 71 (.int k n) = some (.int .i64 (IntKind.wrap .i64 n)) := conv_int (P := Tryd.prog) (s := 3) (d := 71) (by kernel_rfl) (by kernel_rfl) k n
@[go_sem] theorem Tryd.cv3_104 (k : IntKind) (n : Int) : convV Tryd.prog 3 104 (.int k n) = some (.int .u32 (IntKind.wrap .u32 n)) := conv_int (P := Tryd.prog) (s := 3) (d := 104) (by kernel_rfl) (by kernel_rfl) k n
@[go_sem] theorem Tryd.cv3_122 (k : IntKind) (n : Int) : convV Tryd.prog 3 122 (.int k n) = some (.int .u8 (IntKind.wrap .u8 n)) := conv_int (P := Tryd.prog) (s := 3) (d := 122) (by kernel_rfl) (by kernel_rfl) k n
@[go_sem] theorem Tryd.cv3_123 (k : IntKind) (n : Int) : convV Tryd.prog 3 123 (.int k n) = some (.int .u8 (IntKind.wrap .u8 n)) := conv_int (P := Tryd.prog) (s := 3) (d := 123) (by kernel_rfl) (by kernel_rfl) k n
@[go_sem] theorem Tryd.cv3_125 (k : IntKind) (n : Int) : convV Tryd.prog 3 125 (.int k n) = some (.int .i32 (IntKind.wrap .i32 n)) := conv_int (P := Tryd.prog) (s := 3) (d := 125) (by kernel_rfl) (by kernel_rfl) k n
@[go_sem] theorem Tryd.cv3_126 (k : IntKind) (n : Int) : convV Tryd.prog 3 126 (.int k n) = some (.int .i32 (IntKind.wrap .i32 n)) := conv_int (P := Tryd.prog) (s := 3) (d := 126) (by kernel_rfl) (by kernel_rfl) k n
@[go_sem] theorem Tryd.cv3_140 (k : IntKind) (n : Int) : convV Tryd.prog 3 140 (.int k n) = some (.int .u16 (IntKind.wrap .u16 n)) := conv_int (P := Tryd.prog) (s := 3) (d := 140) (by kernel_rfl) (by kernel_rfl) k n
@[go_sem] theorem Tryd.cv3_144 (k : IntKind) (n : Int) : convV Tryd.prog 3 144 (.int k n) = some (.int .i32 (IntKind.wrap .i32 n)) := conv_int (P := Tryd.prog) (s := 3) (d := 144) (by kernel_rfl) (by kernel_rfl) k n
@[go_sem] theorem Tryd.cv5_2 (k : IntKind) (n : Int) : convV Tryd.prog 5 2 (.int k n) = some (.int .i64 (IntKind.wrap .i64 n)) := conv_int (P := Tryd.prog) (s := 5) (d := 2) (by kernel_rfl) (by kernel_rfl) k n
@[go_sem] theorem Tryd.cv5_3 (k : IntKind) (n : Int) : convV Tryd.prog 5 3 (.int k n) = some (.int .i64 (IntKind.wrap .i64 n)) := conv_int (P := Tryd.prog) (s := 5) (d := 3) (by kernel_rfl) (by kernel_rfl) k n
@[go_sem] theorem Tryd.cv5_6 (k : IntKind) (n : Int) : convV Tryd.prog 5 6 (.int k n) = some (.int .u8 (IntKind.wrap .u8 n)) := conv_int (P := Tryd.prog) (s := 5) (d := 6) (by kernel_rfl) (by kernel_rfl) k n
@[go_sem] theorem Tryd.cv5_12 (k : IntKind) (n : Int) : convV Tryd.prog 5 12 (.int k n) = some (.int .u64 (IntKind.wrap .u64 n)) := conv_int (P := Tryd.prog) (s := 5) (d := 12) (by kernel_rfl) (by kernel_rfl) k n
@[go_sem] theorem Tryd.cv5_21 (k : IntKind) (n : Int) : convV Tryd.prog 5 21 (.int k n) = some (.int .i32 (IntKind.wrap .i32 n)) := conv_int (P := Tryd.prog) (s := 5) (d := 21) (by kernel_rfl) (by kernel_rfl) k n
@[go_sem] theorem Tryd.cv5_24 (k : IntKind) (n : Int) : convV Tryd.prog 5 24 (.int k n) = some (.int .i64 (IntKind.wrap .i64 n)) := conv_int (P := Tryd.prog) (s := 5) (d := 24) (by kernel_rfl) (by kernel_rfl) k n
@[go_sem] theorem Tryd.cv5_53 (k : IntKind) (n : Int) : convV Tryd.prog 5 53 (.int k n) = some (.int .u64 (IntKind.wrap .u64 n)) := conv_int (P := Tryd.prog) (s := 5) (d := 53) (by kernel_rfl) (by kernel_rfl) k n
@[go_sem] theorem Tryd.cv5_70 (k : IntKind) (n : Int) : convV Tryd.prog 5 70 (.int k n) = some (.int .u64 (IntKind.wrap .u64 n)) := conv_int (P := Tryd.prog) (s := 5) (d := 70) (by kernel_rfl) (by kernel_rfl) k n
@[go_sem] theorem Tryd.cv5_71 (k : IntKind) (n : Int) : convV Tryd.prog 5 71 (.int k n) = some (.int .i64 (IntKind.wrap .i64 n)) := conv_int (P := Tryd.prog) (s := 5) (d := 71) (by kernel_rfl) (by kernel_rfl) k n
@[go_sem] theorem Tryd.cv5_104 (k : IntKind) (n : Int) : convV Tryd.prog 5 104 (.int k n) = some (.int .u32 (IntKind.wrap .u32 n)) := conv_int (P := Tryd.prog) (s := 5) (d := 104) (by kernel_rfl) (by kernel_rfl) k n
@[go_sem] theorem Tryd.cv5_122 (k : IntKind) (n : Int) : convV Tryd.prog 5 122 (.int k n) = some (.int .u8 (IntKind.wrap .u8 n)) := conv_int (P := Tryd.prog) (s := 5) (d := 122) (by kernel_rfl) (by kernel_rfl) k n
@[go_sem] theorem Tryd.cv5_123 (k : IntKind) (n : Int) : convV Tryd.prog 5 123 (.int k n) = some (.int .u8 (IntKind.wrap .u8 n)) := conv_int (P := Tryd.prog) (s := 5) (d := 123) (by kernel_rfl) (by kernel_rfl) k n
@[go_sem] theorem Tryd.cv5_125 (k : IntKind) (n : Int) : convV Tryd.prog 5 125 (.int k n) = some (.int .i32 (IntKind.wrap .i32 n)) := conv_int (P := Tryd.prog) (s := 5) (d := 125) (by kernel_rfl) (by kernel_rfl) k n
@[go_sem] theorem Tryd.cv5_126 (k : IntKind) (n : Int) : convV Tryd.prog 5 126 (.int k n) = some (.int .i32 (IntKind.wrap .i32 n)) := conv_int (P := Tryd.prog) (s := 5) (d := 126) (by kernel_rfl) (by kernel_rfl) k n
@[go_sem] theorem Tryd.cv5_140 (k : IntKind) (n : Int) : convV Tryd.prog 5 140 (.int k n) = some (.int .u16 (IntKind.wrap .u16 n)) := conv_int (P := Tryd.prog) (s := 5) (d := 140) (by kernel_rfl) (by kernel_rfl) k n
@[go_sem] theorem Tryd.cv5_144 (k : IntKind) (n : Int) : convV Tryd.prog 5 144 (.int k n) = some (.int .i32 (IntKind.wrap .i32 n)) := conv_int (P := Tryd.prog) (s := 5) (d := 144) (by kernel_rfl) (by kernel_rfl) k n
@[go_sem] theorem Tryd.cv6_2 (k : IntKind) (n : Int) : convV Tryd.prog 6 2 (.int k n) = some (.int .i64 (IntKind.wrap .i64 n)) := conv_int (P := Tryd.prog) (s := 6) (d := 2) (by kernel_rfl) (by kernel_rfl) k n
@[go_sem] theorem Tryd.cv6_3 (k : IntKind) (n : Int) : convV Tryd.prog 6 3 (.int k n) = some (.int .i64 (IntKind.wrap .i64 n)) := conv_int (P := Tryd.prog) (s := 6) (d := 3) (by kernel_rfl) (by kernel_rfl) k n
@[go_sem] theorem Tryd.cv6_5 (k : IntKind) (n : Int) : convV Tryd.prog 6 5 (.int k n) = some (.int .u8 (IntKind.wrap .u8 n)) := conv_int (P := Tryd.prog) (s := 6) (d := 5) (by kernel_rfl) (by kernel_rfl) k n
@[go_sem] theorem Tryd.cv6_12 (k : IntKind) (n : Int) : convV Tryd.prog 6 12 (.int k n) = some (.int .u64 (IntKind.wrap .u64 n)) := conv_int (P := Tryd.prog) (s := 6) (d := 12) (by kernel_rfl) (by kernel_rfl) k n
@[go_sem] theorem Tryd.cv6_21 (k : IntKind) (n : Int) : convV Tryd.prog 6 21 (.int k n) = some (.int .i32 (IntKind.wrap .i32 n)) := conv_int (P := Tryd.prog) (s := 6) (d := 21) (by kernel_rfl) (by kernel_rfl) k n
@[go_sem] theorem Tryd.cv6_24 (k : IntKind) (n : Int) : convV Tryd.prog 6 24 (.int k n) = some (.int .i64 (IntKind.wrap .i64 n)) := conv_int (P := Tryd.prog) (s := 6) (d := 24) (by kernel_rfl) (by kernel_rfl) k n
@[go_sem] theorem Tryd.cv6_53 (k : IntKind) (n : Int) : convV Tryd.prog 6 53 (.int k n) = some (.int .u64 (IntKind.wrap .u64 n)) := conv_int (P := Tryd.prog) (s := 6) (d := 53) (by kernel_rfl) (by kernel_rfl) k n
@[go_sem] theorem Tryd.cv6_70 (k : IntKind) (n : Int) : convV Tryd.prog 6 70 (.int k n) = some (.int .u64 (IntKind.wrap .u64 n)) := conv_int (P := Tryd.prog) (s := 6) (d := 70) (by kernel_rfl) (by kernel_rfl) k n
@[go_sem] theorem Tryd.cv6_71 (k : IntKind) (n : Int) : convV Tryd.prog 6 71 (.int k n) = some (.int .i64 (IntKind.wrap .i64 n)) := conv_int (P := Tryd.prog) (s := 6) (d := 71) (by kernel_rfl) (by kernel_rfl) k n
@[go_sem] theorem Tryd.cv6_104 (k : IntKind) (n : Int) : convV Tryd.prog 6 104 (.int k n) = some (.int .u32 (IntKind.wrap .u32 n)) := conv_int (P := Tryd.prog) (s := 6) (d := 104) (by kernel_rfl) (by kernel_rfl) k n
@[go_sem] theorem Tryd.cv6_122 (k : IntKind) (n : Int) : convV Tryd.prog 6 122 (.int k n) = some (.int .u8 (IntKind.wrap .u8 n)) := conv_int (P := Tryd.prog) (s := 6) (d := 122) (by kernel_rfl) (by kernel_rfl) k n
@[go_sem] theorem Tryd.cv6_123 (k : IntKind) (n : Int) : convV Tryd.prog 6 123 (.int k n) = some (.int .u8 (IntKind.wrap .u8 n)) := conv_int (P := Tryd.prog) (s := 6) (d := 123) (by kernel_rfl) (by kernel_rfl) k n
@[go_sem] theorem Tryd.cv6_125 (k : IntKind) (n : Int) : convV Tryd.prog 6 125 (.int k n) = some (.int .i32 (IntKind.wrap .i32 n)) := conv_int (P := Tryd.prog) (s := 6) (d := 125) (by kernel_rfl) (by kernel_rfl) k n
@[go_sem] theorem Tryd.cv6_126 (k : IntKind) (n : Int) : convV Tryd.prog 6 126 (.int k n) = some (.int .i32 (IntKind.wrap .i32 n)) := conv_int (P := Tryd.prog) (s := 6) (d := 126) (by kernel_rfl) (by kernel_rfl) k n
@[go_sem] theorem Tryd.cv6_140 (k : IntKind) (n : Int) : convV Tryd.prog 6 140 (.int k n) = some (.int .u16 (IntKind.wrap .u16 n)) := conv_int (P := Tryd.prog) (s := 6) (d := 140) (by kernel_rfl) (by kernel_rfl) k n
@[go_sem] theorem Tryd.cv6_144 (k : IntKind) (n : Int) : convV Tryd.prog 6 144 (.int k n) = some (.int .i32 (IntKind.wrap .i32 n)) := conv_int (P := Tryd.prog) (s := 6) (d := 144) (by kernel_rfl) (by kernel_rfl) k n
@[go_sem] theorem Tryd.cv12_2 (k : IntKind) (n : Int) : convV Tryd.prog 12 2 (.int k n) = some (.int .i64 (IntKind.wrap .i64 n)) := conv_int (P := Tryd.prog) (s := 12) (d := 2) (by kernel_rfl) (by kernel_rfl) k n
@[go_sem] theorem Tryd.cv12_3 (k : IntKind) (n : Int) : convV Tryd.prog 12 3 (.int k n) = some (.int .i64 (IntKind.wrap .i64 n)) := conv_int (P := Tryd.prog) (s := 12) (d := 3) (by kernel_rfl) (by kernel_rfl) k n
@[go_sem] theorem Tryd.cv12_5 (k : IntKind) (n : Int) : convV Tryd.prog 12 5 (.int k n) = some (.int .u8 (IntKind.wrap .u8 n)) := conv_int (P := Tryd.prog) (s := 12) (d := 5) (by kernel_rfl) (by kernel_rfl) k n
@[go_sem] theorem Tryd.cv12_6 (k : IntKind) (n : Int) : convV Tryd.prog 12 6 (.int k n) = some (.int .u8 (IntKind.wrap .u8 n)) := conv_int (P := Tryd.prog) (s := 12) (d := 6) (by kernel_rfl) (by kernel_rfl) k n
@[go_sem] theorem Tryd.cv12_21 (k : IntKind) (n : Int) : convV Tryd.prog 12 21 (.int k n) = some (.int .i32 (IntKind.wrap .i32 n)) := conv_int (P := Tryd.prog) (s := 12) (d := 21) (by kernel_rfl) (by kernel_rfl) k n
@[go_sem] theorem Tryd.cv12_24 (k : IntKind) (n : Int) : convV Tryd.prog 12 24 (.int k n) = some (.int .i64 (IntKind.wrap .i64 n)) := conv_int (P := Tryd.prog) (s := 12) (d := 24) (by kernel_rfl) (by kernel_rfl) k n
@[go_sem] theorem Tryd.cv12_53 (k : IntKind) (n : Int) : convV Tryd.prog 12 53 (.int k n) = some (.int .u64 (IntKind.wrap .u64 n)) := conv_int (P := Tryd.prog) (s := 12) (d := 53) (by kernel_rfl) (by kernel_rfl) k n
@[go_sem] theorem Tryd.cv12_70 (k : IntKind) (n : Int) : convV Tryd.prog 12 70 (.int k n) = some (.int .u64 (IntKind.wrap .u64 n)) := conv_int (P := Tryd.prog) (s := 12) (d := 70) (by kernel_rfl) (by kernel_rfl) k n
@[go_sem] theorem Tryd.cv12_71 (k : IntKind) (n : Int) : convV Tryd.prog 12 71 (.int k n) = some (.int .i64 (IntKind.wrap .i64 n)) := conv_int (P := Tryd.prog) (s := 12) (d := 71) (by kernel_rfl) (by kernel_rfl) k n
@[go_sem] theorem Tryd.cv12_104 (k : IntKind) (n : Int) : convV Tryd.prog 12 104 (.int k n) = some (.int .u32 (IntKind.wrap .u32 n)) := conv_int (P := Tryd.prog) (s := 12) (d := 104) (by kernel_rfl) (by kernel_rfl) k n
@[go_sem] theorem Tryd.cv12_122 (k : IntKind) (n : Int) : convV Tryd.prog 12 122 (.int k n) = some (.int .u8 (IntKind.wrap .u8 n)) := conv_int (P := Tryd.prog) (s := 12) (d := 122) (by kernel_rfl) (by kernel_rfl) k n
@[go_sem] theorem Tryd.cv12_123 (k : IntKind) (n : Int) : convV Tryd.prog 12 123 (.int k n) = some (.int .u8 (IntKind.wrap .u8 n)) := conv_int (P := Tryd.prog) (s := 12) (d := 123) (by kernel_rfl) (by kernel_rfl) k n
@[go_sem] theorem Tryd.cv12_125 (k : IntKind) (n : Int) : convV Tryd.prog 12 125 (.int k n) = some (.int .i32 (IntKind.wrap .i32 n)) := conv_int (P := Tryd.prog) (s := 12) (d := 125) (by kernel_rfl) (by kernel_rfl) k n
@[go_sem] theorem Tryd.cv12_126 (k : IntKind) (n : Int) : convV Tryd.prog 12 126 (.int k n) = some (.int .i32 (IntKind.wrap .i32 n)) := conv_int (P := Tryd.prog) (s := 12) (d := 126) (by kernel_rfl) (by kernel_rfl) k n
@[go_sem] theorem Tryd.cv12_140 (k : IntKind) (n : Int) : convV Tryd.prog 12 140 (.int k n) = some (.int .u16 (IntKind.wrap .u16 n)) := conv_int (P := Tryd.prog) (s := 12) (d := 140) (by kernel_rfl) (by kernel_rfl) k n
@[go_sem] theorem Tryd.cv12_144 (k : IntKind) (n : Int) : convV Tryd.prog 12 144 (.int k n) = some (.int .i32 (IntKind.wrap .i32 n)) := conv_int (P := Tryd.prog) (s := 12) (d := 144) (by kernel_rfl) (by kernel_rfl) k n
@[go_sem] theorem Tryd.cv21_2 (k : IntKind) (n : Int) : convV Tryd.prog 21 2 (.int k n) = some (.int .i64 (IntKind.wrap .i64 n)) := conv_int (P := Tryd.prog) (s := 21) (d := 2) (by kernel_rfl) (by kernel_rfl) k n
@[go_sem] theorem Tryd.cv21_3 (k : IntKind) (n : Int) : convV Tryd.prog 21 3 (.int k n) = some (.int .i64 (IntKind.wrap .i64 n)) := conv_int (P := Tryd.prog) (s := 21) (d := 3) (by kernel_rfl) (by kernel_rfl) k n
@[go_sem] theorem Tryd.cv21_5 (k : IntKind) (n : Int) : convV Tryd.prog 21 5 (.int k n) = some (.int .u8 (IntKind.wrap .u8 n)) := conv_int (P := Tryd.prog) (s := 21) (d := 5) (by kernel_rfl) (by kernel_rfl) k n
@[go_sem] theorem Tryd.cv21_6 (k : IntKind) (n : Int) : convV Tryd.prog 21 6 (.int k n) = some (.int .u8 (IntKind.wrap .u8 n)) := conv_int (P := Tryd.prog) (s := 21) (d := 6) (by kernel_rfl) (by kernel_rfl) k n
@[go_sem] theorem Tryd.cv21_12 (k : IntKind) (n : Int) : convV Tryd.prog 21 12 (.int k n) = some (.int .u64 (IntKind.wrap .u64 n)) := conv_int (P := Tryd.prog) (s := 21) (d := 12) (by kernel_rfl) (by kernel_rfl) k n
@[go_sem] theorem Tryd.cv21_24 (k : IntKind) (n : Int) : convV Tryd.prog 21 24 (.int k n) = some (.int .i64 (IntKind.wrap .i64 n)) := conv_int (P := Tryd.prog) (s := 21) (d := 24) (by kernel_rfl) (by kernel_rfl) k n
@[go_sem] theorem Tryd.cv21_53 (k : IntKind) (n : Int) : convV Tryd.prog 21 53 (.int k n) = some (.int .u64 (IntKind.wrap .u64 n)) := conv_int (P := Tryd.prog) (s := 21) (d := 53) (by kernel_rfl) (by kernel_rfl) k n
@[go_sem] theorem Tryd.cv21_70 (k : IntKind) (n : Int) : convV Tryd.prog 21 70 (.int k n) = some (.int .u64 (IntKind.wrap .u64 n)) := conv_int (P := Tryd.prog) (s := 21) (d := 70) (by kernel_rfl) (by kernel_rfl) k n
@[go_sem] theorem Tryd.cv21_71 (k : IntKind) (n : Int) : convV Tryd.prog 21 71 (.int k n) = some (.int .i64 (IntKind.wrap .i64 n)) := conv_int (P := Tryd.prog) (s := 21) (d := 71) (by kernel_rfl) (by kernel_rfl) k n
@[go_sem] theorem Tryd.cv21_104 (k : IntKind) (n : Int) : convV Tryd.prog 21 104 (.int k n) = some (.int .u32 (IntKind.wrap .u32 n)) := conv_int (P := Tryd.prog) (s := 21) (d := 104) (by kernel_rfl) (by kernel_rfl) k n
@[go_sem] theorem Tryd.cv21_122 (k : IntKind) (n : Int) : convV Tryd.prog 21 122 (.int k n) = some (.int .u8 (IntKind.wrap .u8 n)) := conv_int (P := Tryd.prog) (s := 21) (d := 122) (by kernel_rfl) (by kernel_rfl) k n
@[go_sem] theorem Tryd.cv21_123 (k : IntKind) (n : Int) : convV Tryd.prog 21 123 (.int k n) = some (.int .u8 (IntKind.wrap .u8 n)) := conv_int (P := Tryd.prog) (s := 21) (d := 123) (by kernel_rfl) (by kernel_rfl) k n
@[go_sem] theorem Tryd.cv21_125 (k : IntKind) (n : Int) : convV Tryd.prog 21 125 (.int k n) = some (.int .i32 (IntKind.wrap .i32 n)) := conv_int (P := Tryd.prog) (s := 21) (d := 125) (by kernel_rfl) (by kernel_rfl) k n
@[go_sem] theorem Tryd.cv21_126 (k : IntKind) (n : Int) : convV Tryd.prog 21 126 (.int k n) = some (.int .i32 (IntKind.wrap .i32 n)) := conv_int (P := Tryd.prog) (s := 21) (d := 126) (by kernel_rfl) (by kernel_rfl) k n
@[go_sem] theorem Tryd.cv21_140 (k : IntKind) (n : Int) : convV Tryd.prog 21 140 (.int k n) = some (.int .u16 (IntKind.wrap .u16 n)) := conv_int (P := Tryd.prog) (s := 21) (d := 140) (by kernel_rfl) (by kernel_rfl) k n
@[go_sem] theorem Tryd.cv21_144 (k : IntKind) (n : Int) : convV Tryd.prog 21 144 (.int k n) = some (.int .i32 (IntKind.wrap .i32 n)) := conv_int (P := Tryd.prog) (s := 21) (d := 144) (by kernel_rfl) (by kernel_rfl) k n
@[go_sem] theorem Tryd.cv24_2 (k : IntKind) (n : Int) : convV Tryd.prog 24 2 (.int k n) = some (.int .i64 (IntKind.wrap .i64 n)) := conv_int (P := Tryd.prog) (s := 24) (d := 2) (by kernel_rfl) (by kernel_rfl) k n
@[go_sem] theorem Tryd.cv24_3 (k : IntKind) (n : Int) : convV Tryd.prog 24 3 (.int k n) = some (.int .i64 (IntKind.wrap .i64 n)) := conv_int (P := Tryd.prog) (s := 24) (d := 3) (by kernel_rfl) (by kernel_rfl) k n
@[go_sem] theorem Tryd.cv24_5 (k : IntKind) (n : Int) : convV Tryd.prog 24 5 (.int k n) = some (.int .u8 (IntKind.wrap .u8 n)) := conv_int (P := Tryd.prog) (s := 24) (d := 5) (by kernel_rfl) (by kernel_rfl) k n
@[go_sem] theorem Tryd.cv24_6 (k : IntKind) (n : Int) : convV Tryd.prog 24 6 (.int k n) = some (.int .u8 (IntKind.wrap .u8 n)) := conv_int (P := Tryd.prog) (s := 24) (d := 6) (by kernel_rfl) (by kernel_rfl) k n
@[go_sem] theorem Tryd.cv24_12 (k : IntKind) (n : Int) : convV Tryd.prog 24 12 (.int k n) = some (.int .u64 (IntKind.wrap .u64 n)) := conv_int (P := Tryd.prog) (s := 24) (d := 12) (by kernel_rfl) (by kernel_rfl) k n
@[go_sem] theorem Tryd.cv24_21 (k : IntKind) (n : Int) : convV Tryd.prog 24 21 (.int k n) = some (.int .i32 (IntKind.wrap .i32 n)) := conv_int (P := Tryd.prog) (s := 24) (d := 21) (by kernel_rfl) (by kernel_rfl) k n
@[go_sem] theorem Tryd.cv24_53 (k : IntKind) (n : Int) : convV Tryd.prog 24 53 (.int k n) = some (.int .u64 (IntKind.wrap .u64 n)) := conv_int (P := Tryd.prog) (s := 24) (d := 53) (by kernel_rfl) (by kernel_rfl) k n
@[go_sem] theorem Tryd.cv24_70 (k : IntKind) (n : Int) : convV Tryd.prog 24 70 (.int k n) = some (.int .u64 (IntKind.wrap .u64 n)) := conv_int (P := Tryd.prog) (s := 24) (d := 70) (by kernel_rfl) (by kernel_rfl) k n
@[go_sem] theorem Tryd.cv24_71 (k : IntKind) (n : Int) : convV Tryd.prog 24 71 (.int k n) = some (.int .i64 (IntKind.wrap .i64 n)) := conv_int (P := Tryd.prog) (s := 24) (d := 71) (by kernel_rfl) (by kernel_rfl) k n
@[go_sem] theorem Tryd.cv24_104 (k : IntKind) (n : Int) : convV Tryd.prog 24 104 (.int k n) = some (.int .u32 (IntKind.wrap .u32 n)) := conv_int (P := Tryd.prog) (s := 24) (d := 104) (by kernel_rfl) (by kernel_rfl) k n
@[go_sem] theorem Tryd.cv24_122 (k : IntKind) (n : Int) : convV Tryd.prog 24 122 (.int k n) = some (.int .u8 (IntKind.wrap .u8 n)) := conv_int (P := Tryd.prog) (s := 24) (d := 122) (by kernel_rfl) (by kernel_rfl) k n
@[go_sem] theorem Tryd.cv24_123 (k : IntKind) (n : Int) : convV Tryd.prog 24 123 (.int k n) = some (.int .u8 (IntKind.wrap .u8 n)) := conv_int (P := Tryd.prog) (s := 24) (d := 123) (by kernel_rfl) (by kernel_rfl) k n
@[go_sem] theorem Tryd.cv24_125 (k : IntKind) (n : Int) : convV Tryd.prog 24 125 (.int k n) = some (.int .i32 (IntKind.wrap .i32 n)) := conv_int (P := Tryd.prog) (s := 24) (d := 125) (by kernel_rfl) (by kernel_rfl) k n
@[go_sem] theorem Tryd.cv24_126 (k : IntKind) (n : Int) : convV Tryd.prog 24 126 (.int k n) = some (.int .i32 (IntKind.wrap .i32 n)) := conv_int (P := Tryd.prog) (s := 24) (d := 126) (by kernel_rfl) (by kernel_rfl) k n
@[go_sem] theorem Tryd.cv24_140 (k : IntKind) (n : Int) : convV Tryd.prog 24 140 (.int k n) = some (.int .u16 (IntKind.wrap .u16 n)) := conv_int (P := Tryd.prog) (s := 24) (d := 140) (by kernel_rfl) (by kernel_rfl) k n
@[go_sem] theorem Tryd.cv24_144 (k : IntKind) (n : Int) : convV Tryd.prog 24 144 (.int k n) = some (.int .i32 (IntKind.wrap .i32 n)) := conv_int (P := Tryd.prog) (s := 24) (d := 144) (by kernel_rfl) (by kernel_rfl) k n
@[go_sem] theorem Tryd.cv53_2 (k : IntKind) (n : Int) : convV Tryd.prog 53 2 (.int k n) = some (.int .i64 (IntKind.wrap .i64 n)) := conv_int (P := Tryd.prog) (s := 53) (d := 2) (by kernel_rfl) (by kernel_rfl) k n
@[go_sem] theorem Tryd.cv53_3 (k : IntKind) (n : Int) : convV Tryd.prog 53 3 (.int k n) = some (.int .i64 (IntKind.wrap .i64 n)) := conv_int (P := Tryd.prog) (s := 53) (d := 3) (by kernel_rfl) (by kernel_rfl) k n
@[go_sem] theorem Tryd.cv53_5 (k : IntKind) (n : Int) : convV Tryd.prog 53 5 (.int k n) = some (.int .u8 (IntKind.wrap .u8 n)) := conv_int (P := Tryd.prog) (s := 53) (d := 5) (by kernel_rfl) (by kernel_rfl) k n
@[go_sem] theorem Tryd.cv53_6 (k : IntKind) (n : Int) : convV Tryd.prog 53 6 (.int k n) = some (.int .u8 (IntKind.wrap .u8 n)) := conv_int (P := Tryd.prog) (s := 53) (d := 6) (by kernel_rfl) (by kernel_rfl) k n
@[go_sem] theorem Tryd.cv53_12 (k : IntKind) (n : Int) : convV Tryd.prog 53 12 (.int k n) = some (.int .u64 (IntKind.wrap .u64 n)) := conv_int (P := Tryd.prog) (s := 53) (d := 12) (by kernel_rfl) (by kernel_rfl) k n
@[go_sem] theorem Tryd.cv53_21 (k : IntKind) (n : Int) : convV Tryd.prog 53 21 (.int k n) = some (.int .i32 (IntKind.wrap .i32 n)) := conv_int (P := Tryd.prog) (s := 53) (d := 21) (by kernel_rfl) (by kernel_rfl) k n
@[go_sem] theorem Tryd.cv53_24 (k : IntKind) (n : Int) : convV Tryd.prog 53 24 (.int k n) = some (.int .i64 (IntKind.wrap .i64 n)) := conv_int (P := Tryd.prog) (s := 53) (d := 24) (by kernel_rfl) (by kernel_rfl) k n
@[go_sem] theorem Tryd.cv53_70 (k : IntKind) (n : Int) : convV Tryd.prog 53 70 (.int k n) = some (.int .u64 (IntKind.wrap .u64 n)) := conv_int (P := Tryd.prog) (s := 53) (d := 70) (by kernel_rfl) (by kernel_rfl) k n
@[go_sem] theorem Tryd.cv53_71 (k : IntKind) (n : Int) : convV Tryd.prog 53 71 (.int k n) = some (.int .i64 (IntKind.wrap .i64 n)) := conv_int (P := Tryd.prog) (s := 53) (d := 71) (by kernel_rfl) (by kernel_rfl) k n
@[go_sem] theorem Tryd.cv53_104 (k : IntKind) (n : Int) : convV Tryd.prog 53 104 (.int k n) = some (.int .u32 (IntKind.wrap .u32 n)) := conv_int (P := Tryd.prog) (s := 53) (d := 104) (by kernel_rfl) (by kernel_rfl) k n
@[go_sem] theorem Tryd.cv53_122 (k : IntKind) (n : Int) : convV Tryd.prog 53 122 (.int k n) = some (.int .u8 (IntKind.wrap .u8 n)) := conv_int (P := Tryd.prog) (s := 53) (d := 122) (by kernel_rfl) (by kernel_rfl) k n
@[go_sem] theorem Tryd.cv53_123 (k : IntKind) (n : Int) : convV Tryd.prog 53 123 (.int k n) = some (.int .u8 (IntKind.wrap .u8 n)) := conv_int (P := Tryd.prog) (s := 53) (d := 123) (by kernel_rfl) (by kernel_rfl) k n
@[go_sem] theorem Tryd.cv53_125 (k : IntKind) (n : Int) : convV Tryd.prog 53 125 (.int k n) = some (.int .i32 (IntKind.wrap .i32 n)) := conv_int (P := Tryd.prog) (s := 53) (d := 125) (by kernel_rfl) (by kernel_rfl) k n
@[go_sem] theorem Tryd.cv53_126 (k : IntKind) (n : Int) : convV Tryd.prog 53 126 (.int k n) = some (.int .i32 (IntKind.wrap .i32 n)) := conv_int (P := Tryd.prog) (s := 53) (d := 126) (by kernel_rfl) (by kernel_rfl) k n
@[go_sem] theorem Tryd.cv53_140 (k : IntKind) (n : Int) : convV Tryd.prog 53 140 (.int k n) = some (.int .u16 (IntKind.wrap .u16 n)) := conv_int (P := Tryd.prog) (s := 53) (d := 140) (by kernel_rfl) (by kernel_rfl) k n
@[go_sem] theorem Tryd.cv53_144 (k : IntKind) (n : Int) : convV Tryd.prog 53 144 (.int k n) = some (.int .i32 (IntKind.wrap .i32 n)) := conv_int (P := Tryd.prog) (s := 53) (d := 144) (by kernel_rfl) (by kernel_rfl) k n
@[go_sem] theorem Tryd.cv70_2 (k : IntKind) (n : Int) : convV Tryd.prog 70 2 (.int k n) = some (.int .i64 (IntKind.wrap .i64 n)) := conv_int (P := Tryd.prog) (s := 70) (d := 2) (by kernel_rfl) (by kernel_rfl) k n
@[go_sem] theorem Tryd.cv70_3 (k : IntKind) (n : Int) : convV Tryd.prog 70 3 (.int k n) = some (.int .i64 (IntKind.wrap .i64 n)) := conv_int (P := Tryd.prog) (s := 70) (d := 3) (by kernel_rfl) (by kernel_rfl) k n
@[go_sem] theorem Tryd.cv70_5 (k : IntKind) (n : Int) : convV Tryd.prog 70 5 (.int k n) = some (.int .u8 (IntKind.wrap .u8 n)) := conv_int (P := Tryd.prog) (s := 70) (d := 5) (by kernel_rfl) (by kernel_rfl) k n
@[go_sem] theorem Tryd.cv70_6 (k : IntKind) (n : Int) : convV Tryd.prog 70 6 (.int k n) = some (.int .u8 (IntKind.wrap .u8 n)) := conv_int (P := Tryd.prog) (s := 70) (d := 6) (by kernel_rfl) (by kernel_rfl) k n
@[go_sem] theorem Tryd.cv70_12 (k : IntKind) (n : Int) : convV Tryd.prog 70 12 (.int k n) = some (.int .u64 (IntKind.wrap .u64 n)) := conv_int (P := Tryd.prog) (s := 70) (d := 12) (by kernel_rfl) (by kernel_rfl) k n
@[go_sem] theorem Tryd.cv70_21 (k : IntKind) (n : Int) : convV Tryd.prog 70 21 (.int k n) = some (.int .i32 (IntKind.wrap .i32 n)) := conv_int (P := Tryd.prog) (s := 70) (d := 21) (by kernel_rfl) (by kernel_rfl) k n
@[go_sem] theorem Tryd.cv70_24 (k : IntKind) (n : Int) : convV Tryd.prog 70 24 (.int k n) = some (.int .i64 (IntKind.wrap .i64 n)) := conv_int (P := Tryd.prog) (s := 70) (d := 24) (by kernel_rfl) (by kernel_rfl) k n
@[go_sem] theorem Tryd.cv70_53 (k : IntKind) (n : Int) : convV Tryd.prog 70 53 (.int k n) = some (.int .u64 (IntKind.wrap .u64 n)) := conv_int (P := Tryd.prog) (s := 70) (d := 53) (by kernel_rfl) (by kernel_rfl) k n
@[go_sem] theorem Tryd.cv70_71 (k : IntKind) (n : Int) : convV Tryd.prog 70 71 (.int k n) = some (.int .i64 (IntKind.wrap .i64 n)) := conv_int (P := Tryd.prog) (s := 70) (d := 71) (by kernel_rfl) (by kernel_rfl) k n
@[go_sem] theorem Tryd.cv70_104 (k : IntKind) (n : Int) : convV Tryd.prog 70 104 (.int k n) = some (.int .u32 (IntKind.wrap .u32 n)) := conv_int (P := Tryd.prog) (s := 70) (d := 104) (by kernel_rfl) (by kernel_rfl) k n
@[go_sem] theorem Tryd.cv70_122 (k : IntKind) (n : Int) : convV Tryd.prog 70 122 (.int k n) = some (.int .u8 (IntKind.wrap .u8 n)) := conv_int (P := Tryd.prog) (s := 70) (d := 122) (by kernel_rfl) (by kernel_rfl) k n
@[go_sem] theorem Tryd.cv70_123 (k : IntKind) (n : Int) : convV Tryd.prog 70 123 (.int k n) = some (.int .u8 (IntKind.wrap .u8 n)) := conv_int (P := Tryd.prog) (s := 70) (d := 123) (by kernel_rfl) (by kernel_rfl) k n
@[go_sem] theorem Tryd.cv70_125 (k : IntKind) (n : Int) : convV Tryd.prog 70 125 (.int k n) = some (.int .i32 (IntKind.wrap .i32 n)) := conv_int (P := Tryd.prog) (s := 70) (d := 125) (by kernel_rfl) (by kernel_rfl) k n
@[go_sem] theorem Tryd.cv70_126 (k : IntKind) (n : Int) : convV Tryd.prog 70 126 (.int k n) = some (.int .i32 (IntKind.wrap .i32 n)) := conv_int (P := Tryd.prog) (s := 70) (d := 126) (by kernel_rfl) (by kernel_rfl) k n
@[go_sem] theorem Tryd.cv70_140 (k : IntKind) (n : Int) : convV Tryd.prog 70 140 (.int k n) = some (.int .u16 (IntKind.wrap .u16 n)) := conv_int (P := Tryd.prog) (s := 70) (d := 140) (by kernel_rfl) (by kernel_rfl) k n
@[go_sem] theorem Tryd.cv70_144 (k : IntKind) (n : Int) : convV Tryd.prog 70 144 (.int k n) = some (.int .i32 (IntKind.wrap .i32 n)) := conv_int (P := Tryd.prog) (s := 70) (d := 144) (by kernel_rfl) (by kernel_rfl) k n
@[go_sem] theorem Tryd.cv71_2 (k : IntKind) (n : Int) : convV Tryd.prog 71 2 (.int k n) = some (.int .i64 (IntKind.wrap .i64 n)) := conv_int (P := Tryd.prog) (s := 71) (d := 2) (by kernel_rfl) (by kernel_rfl) k n
@[go_sem] theorem Tryd.cv71_3 (k : IntKind) (n : Int) : convV Tryd.prog 71 3 (.int k n) = some (.int .i64 (IntKind.wrap .i64 n)) := conv_int (P := Tryd.prog) (s := 71) (d := 3) (by kernel_rfl) (by kernel_rfl) k n
@[go_sem] theorem Tryd.cv71_5 (k : IntKind) (n : Int) : convV Tryd.prog 71 5 (.int k n) = some (.int .u8 (IntKind.wrap .u8 n)) := conv_int (P := Tryd.prog) (s := 71) (d := 5) (by kernel_rfl) (by kernel_rfl) k n
@[go_sem] theorem Tryd.cv71_6 (k : IntKind) (n : Int) : convV Tryd.prog 71 6 (.int k n) = some (.int .u8 (IntKind.wrap .u8 n)) := conv_int (P := Tryd.prog) (s := 71) (d := 6) (by kernel_rfl) (by kernel_rfl) k n
@[go_sem] theorem Tryd.cv71_12 (k : IntKind) (n : Int) : convV Tryd.prog 71 12 (.int k n) = some (.int .u64 (IntKind.wrap .u64 n)) := conv_int (P := Tryd.prog) (s := 71) (d := 12) (by kernel_rfl) (by kernel_rfl) k n
@[go_sem] theorem Tryd.cv71_21 (k : IntKind) (n : Int) : convV Tryd.prog 71 21 (.int k n) = some (.int .i32 (IntKind.wrap .i32 n)) := conv_int (P := Tryd.prog) (s := 71) (d := 21) (by kernel_rfl) (by kernel_rfl) k n
@[go_sem] theorem Tryd.cv71_24 (k : IntKind) (n : Int) : convV Tryd.prog 71 24 (.int k n) = some (.int .i64 (IntKind.wrap .i64 n)) := conv_int (P := Tryd.prog) (s := 71) (d := 24) (by kernel_rfl) (by kernel_rfl) k n
@[go_sem] theorem Tryd.cv71_53 (k : IntKind) (n : Int) : convV Tryd.prog 71 53 (.int k n) = some (.int .u64 (IntKind.wrap .u64 n)) := conv_int (P := Tryd.prog) (s := 71) (d := 53) (by kernel_rfl) (by kernel_rfl) k n
@[go_sem] theorem Tryd.cv71_70 (k : IntKind) (n : Int) : convV Tryd.prog 71 70 (.int k n) = some (.int .u64 (IntKind.wrap .u64 n)) := conv_int (P := Tryd.prog) (s := 71) (d := 70) (by kernel_rfl) (by kernel_rfl) k n
@[go_sem] theorem Tryd.cv71_104 (k : IntKind) (n : Int) : convV Tryd.prog 71 104 (.int k n) = some (.int .u32 (IntKind.wrap .u32 n)) := conv_int (P := Tryd.prog) (s := 71) (d := 104) (by kernel_rfl) (by kernel_rfl) k n
@[go_sem] theorem Tryd.cv71_122 (k : IntKind) (n : Int) : convV Tryd.prog 71 122 (.int k n) = some (.int .u8 (IntKind.wrap .u8 n)) := conv_int (P := Tryd.prog) (s := 71) (d := 122) (by kernel_rfl) (by kernel_rfl) k n
@[go_sem] theorem Tryd.cv71_123 (k : IntKind) (n : Int) : convV Tryd.prog 71 123 (.int k n) = some (.int .u8 (IntKind.wrap .u8 n)) := conv_int (P := Tryd.prog) (s := 71) (d := 123) (by kernel_rfl) (by kernel_rfl) k n
@[go_sem] theorem Tryd.cv71_125 (k : IntKind) (n : Int) : convV Tryd.prog 71 125 (.int k n) = some (.int .i32 (IntKind.wrap .i32 n)) := conv_int (P := Tryd.prog) (s := 71) (d := 125) (by kernel_rfl) (by kernel_rfl) k n
@[go_sem] theorem Tryd.cv71_126 (k : IntKind) (n : Int) : convV Tryd.prog 71 126 (.int k n) = some (.int .i32 (IntKind.wrap .i32 n)) := conv_int (P := Tryd.prog) (s := 71) (d := 126) (by kernel_rfl) (by kernel_rfl) k n
@[go_sem] theorem Tryd.cv71_140 (k : IntKind) (n : Int) : convV Tryd.prog 71 140 (.int k n) = some (.int .u16 (IntKind.wrap .u16 n)) := conv_int (P := Tryd.prog) (s := 71) (d := 140) (by kernel_rfl) (by kernel_rfl) k n
@[go_sem] theorem Tryd.cv71_144 (k : IntKind) (n : Int) : convV Tryd.prog 71 144 (.int k n) = some (.int .i32 (IntKind.wrap .i32 n)) := conv_int (P := Tryd.prog) (s := 71) (d := 144) (by kernel_rfl) (by kernel_rfl) k n
@[go_sem] theorem Tryd.cv104_2 (k : IntKind) (n : Int) : convV Tryd.prog 104 2 (.int k n) = some (.int .i64 (IntKind.wrap .i64 n)) := conv_int (P := Tryd.prog) (s := 104) (d := 2) (by kernel_rfl) (by kernel_rfl) k n
@[go_sem] theorem Tryd.cv104_3 (k : IntKind) (n : Int) : convV Tryd.prog 104 3 (.int k n) = some (.int .i64 (IntKind.wrap .i64 n)) := conv_int (P := Tryd.prog) (s := 104) (d := 3) (by kernel_rfl) (by kernel_rfl) k n
@[go_sem] theorem Tryd.cv104_5 (k : IntKind) (n : Int) : convV Tryd.prog 104 5 (.int k n) = some (.int .u8 (IntKind.wrap .u8 n)) := conv_int (P := Tryd.prog) (s := 104) (d := 5) (by kernel_rfl) (by kernel_rfl) k n
@[go_sem] theorem Tryd.cv104_6 (k : IntKind) (n : Int) : convV Tryd.prog 104 6 (.int k n) = some (.int .u8 (IntKind.wrap .u8 n)) := conv_int (P := Tryd.prog) (s := 104) (d := 6) (by kernel_rfl) (by kernel_rfl) k n
@[go_sem] theorem Tryd.cv104_12 (k : IntKind) (n : Int) : convV Tryd.prog 104 12 (.int k n) = some (.int .u64 (IntKind.wrap .u64 n)) := conv_int (P := Tryd.prog) (s := 104) (d := 12) (by kernel_rfl) (by kernel_rfl) k n
@[go_sem] theorem Tryd.cv104_21 (k : IntKind) (n : Int) : convV Tryd.prog 104 21 (.int k n) = some (.int .i32 (IntKind.wrap .i32 n)) := conv_int (P := Tryd.prog) (s := 104) (d := 21) (by kernel_rfl) (by kernel_rfl) k n
@[go_sem] theorem Tryd.cv104_24 (k : IntKind) (n : Int) : convV Tryd.prog 104 24 (.int k n) = some (.int .i64 (IntKind.wrap .i64 n)) := conv_int (P := Tryd.prog) (s := 104) (d := 24) (by kernel_rfl) (by kernel_rfl) k n
@[go_sem] theorem Tryd.cv104_53 (k : IntKind) (n : Int) : convV Tryd.prog 104 53 (.int k n) = some (.int .u64 (IntKind.wrap .u64 n)) := conv_int (P := Tryd.prog) (s := 104) (d := 53) (by kernel_rfl) (by kernel_rfl) k n
@[go_sem] theorem Tryd.cv104_70 (k : IntKind) (n : Int) : convV Tryd.prog 104 70 (.int k n) = some (.int .u64 (IntKind.wrap .u64 n)) := conv_int (P := Tryd.prog) (s := 104) (d := 70) (by kernel_rfl) (by kernel_rfl) k n
@[go_sem] theorem Tryd.cv104_71 (k : IntKind) (n : Int) : convV Tryd.prog 104 71 (.int k n) = some (.int .i64 (IntKind.wrap .i64 n)) := conv_int (P := Tryd.prog) (s := 104) (d := 71) (by kernel_rfl) (by kernel_rfl) k n
@[go_sem] theorem Tryd.cv104_122 (k : IntKind) (n : Int) : convV Tryd.prog 104 122 (.int k n) = some (.int .u8 (IntKind.wrap .u8 n)) := conv_int (P := Tryd.prog) (s := 104) (d := 122) (by kernel_rfl) (by kernel_rfl) k n
@[go_sem] theorem Tryd.cv104_123 (k : IntKind) (n : Int) : convV Tryd.prog 104 123 (.int k n) = some (.int .u8 (IntKind.wrap .u8 n)) := conv_int (P := Tryd.prog) (s := 104) (d := 123) (by kernel_rfl) (by kernel_rfl) k n
@[go_sem] theorem Tryd.cv104_125 (k : IntKind) (n : Int) : convV Tryd.prog 104 125 (.int k n) = some (.int .i32 (IntKind.wrap .i32 n)) := conv_int (P := Tryd.prog) (s := 104) (d := 125) (by kernel_rfl) (by kernel_rfl) k n
@[go_sem] theorem Tryd.cv104_126 (k : IntKind) (n : Int) : convV Tryd.prog 104 126 (.int k n) = some (.int .i32 (IntKind.wrap .i32 n)) := conv_int (P := Tryd.prog) (s := 104) (d := 126) (by kernel_rfl) (by kernel_rfl) k n
@[go_sem] theorem Tryd.cv104_140 (k : IntKind) (n : Int) : convV Tryd.prog 104 140 (.int k n) = some (.int .u16 (IntKind.wrap .u16 n)) := conv_int (P := Tryd.prog) (s := 104) (d := 140) (by kernel_rfl) (by kernel_rfl) k n
@[go_sem] theorem Tryd.cv104_144 (k : IntKind) (n : Int) : convV Tryd.prog 104 144 (.int k n) = some (.int .i32 (IntKind.wrap .i32 n)) := conv_int (P := Tryd.prog) (s := 104) (d := 144) (by kernel_rfl) (by kernel_rfl) k n
@[go_sem] theorem Tryd.cv122_2 (k : IntKind) (n : Int) : convV Tryd.prog 122 2 (.int k n) = some (.int .i64 (IntKind.wrap .i64 n)) := conv_int (P := Tryd.prog) (s := 122) (d := 2) (by kernel_rfl) (by kernel_rfl) k n
@[go_sem] theorem Tryd.cv122_3 (k : IntKind) (n : Int) : convV Tryd.prog 122 3 (.int k n) = some (.int .i64 (IntKind.wrap .i64 n)) := conv_int (P := Tryd.prog) (s := 122) (d := 3) (by kernel_rfl) (by kernel_rfl) k n
@[go_sem] theorem Tryd.cv122_5 (k : IntKind) (n : Int) : convV Tryd.prog 122 5 (.int k n) = some (.int .u8 (IntKind.wrap .u8 n)) := conv_int (P := Tryd.prog) (s := 122) (d := 5) (by kernel_rfl) (by kernel_rfl) k n
@[go_sem] theorem Tryd.cv122_6 (k : IntKind) (n : Int) : convV Tryd.prog 122 6 (.int k n) = some (.int .u8 (IntKind.wrap .u8 n)) := conv_int (P := Tryd.prog) (s := 122) (d := 6) (by kernel_rfl) (by kernel_rfl) k n
@[go_sem] theorem Tryd.cv122_12 (k : IntKind) (n : Int) : convV Tryd.prog 122 12 (.int k n) = some (.int .u64 (IntKind.wrap .u64 n)) := conv_int (P := Tryd.prog) (s := 122) (d := 12) (by kernel_rfl) (by kernel_rfl) k n
@[go_sem] theorem Tryd.cv122_21 (k : IntKind) (n : Int) : convV Tryd.prog 122 21 (.int k n) = some (.int .i32 (IntKind.wrap .i32 n)) := conv_int (P := Tryd.prog) (s := 122) (d := 21) (by kernel_rfl) (by kernel_rfl) k n
@[go_sem] theorem Tryd.cv122_24 (k : IntKind) (n : Int) : convV Tryd.prog 122 24 (.int k n) = some (.int .i64 (IntKind.wrap .i64 n)) := conv_int (P := Tryd.prog) (s := 122) (d := 24) (by kernel_rfl) (by kernel_rfl) k n
@[go_sem] theorem Tryd.cv122_53 (k : IntKind) (n : Int) : convV Tryd.prog 122 53 (.int k n) = some (.int .u64 (IntKind.wrap .u64 n)) := conv_int (P := Tryd.prog) (s := 122) (d := 53) (by kernel_rfl) (by kernel_rfl) k n
@[go_sem] theorem Tryd.cv122_70 (k : IntKind) (n : Int) : convV Tryd.prog 122 70 (.int k n) = some (.int .u64 (IntKind.wrap .u64 n)) := conv_int (P := Tryd.prog) (s := 122) (d := 70) (by kernel_rfl) (by kernel_rfl) k n
@[go_sem] theorem Tryd.cv122_71 (k : IntKind) (n : Int) : convV Tryd.prog 122 71 (.int k n) = some (.int .i64 (IntKind.wrap .i64 n)) := conv_int (P := Tryd.prog) (s := 122) (d := 71) (by kernel_rfl) (by kernel_rfl) k n
@[go_sem] theorem Tryd.cv122_104 (k : IntKind) (n : Int) : convV Tryd.prog 122 104 (.int k n) = some (.int .u32 (IntKind.wrap .u32 n)) := conv_int (P := Tryd.prog) (s := 122) (d := 104) (by kernel_rfl) (by kernel_rfl) k n
@[go_sem] theorem Tryd.cv122_123 (k : IntKind) (n : Int) : convV Tryd.prog 122 123 (.int k n) = some (.int .u8 (IntKind.wrap .u8 n)) := conv_int (P := Tryd.prog) (s := 122) (d := 123) (by kernel_rfl) (by kernel_rfl) k n
@[go_sem] theorem Tryd.cv122_125 (k : IntKind) (n : Int) : convV Tryd.prog 122 125 (.int k n) = some (.int .i32 (IntKind.wrap .i32 n)) := conv_int (P := Tryd.prog) (s := 122) (d := 125) (by kernel_rfl) (by kernel_rfl) k n
@[go_sem] theorem Tryd.cv122_126 (k : IntKind) (n : Int) : convV Tryd.prog 122 126 (.int k n) = some (.int .i32 (IntKind.wrap .i32 n)) := conv_int (P := Tryd.prog) (s := 122) (d := 126) (by kernel_rfl) (by kernel_rfl) k n
@[go_sem] theorem Tryd.cv122_140 (k : IntKind) (n : Int) : convV Tryd.prog 122 140 (.int k n) = some (.int .u16 (IntKind.wrap .u16 n)) := conv_int (P := Tryd.prog) (s := 122) (d := 140) (by kernel_rfl) (by kernel_rfl) k n
@[go_sem] theorem Tryd.cv122_144 (k : IntKind) (n : Int) : convV Tryd.prog 122 144 (.int k n) = some (.int .i32 (IntKind.wrap .i32 n)) := conv_int (P := Tryd.prog) (s := 122) (d := 144) (by kernel_rfl) (by kernel_rfl) k n
@[go_sem] theorem Tryd.cv123_2 (k : IntKind) (n : Int) : convV Tryd.prog 123 2 (.int k n) = some (.int .i64 (IntKind.wrap .i64 n)) := conv_int (P := Tryd.prog) (s := 123) (d := 2) (by kernel_rfl) (by kernel_rfl) k n
@[go_sem] theorem Tryd.cv123_3 (k : IntKind) (n : Int) : convV Tryd.prog 123 3 (.int k n) = some (.int .i64 (IntKind.wrap .i64 n)) := conv_int (P := Tryd.prog) (s := 123) (d := 3) (by kernel_rfl) (by kernel_rfl) k n
@[go_sem] theorem Tryd.cv123_5 (k : IntKind) (n : Int) : convV Tryd.prog 123 5 (.int k n) = some (.int .u8 (IntKind.wrap .u8 n)) := conv_int (P := Tryd.prog) (s := 123) (d := 5) (by kernel_rfl) (by kernel_rfl) k n
@[go_sem] theorem Tryd.cv123_6 (k : IntKind) (n : Int) : convV Tryd.prog 123 6 (.int k n) = some (.int .u8 (IntKind.wrap .u8 n)) := conv_int (P := Tryd.prog) (s := 123) (d := 6) (by kernel_rfl) (by kernel_rfl) k n
@[go_sem] theorem Tryd.cv123_12 (k : IntKind) (n : Int) : convV Tryd.prog 123 12 (.int k n) = some (.int .u64 (IntKind.wrap .u64 n)) := conv_int (P := Tryd.prog) (s := 123) (d := 12) (by kernel_rfl) (by kernel_rfl) k n
@[go_sem] theorem Tryd.cv123_21 (k : IntKind) (n : Int) : convV Tryd.prog 123 21 (.int k n) = some (.int .i32 (IntKind.wrap .i32 n)) := conv_int (P := Tryd.prog) (s := 123) (d := 21) (by kernel_rfl) (by kernel_rfl) k n
@[go_sem] theorem Tryd.cv123_24 (k : IntKind) (n : Int) : convV Tryd.prog 123 24 (.int k n) = some (.int .i64 (IntKind.wrap .i64 n)) := conv_int (P := Tryd.prog) (s := 123) (d := 24) (by kernel_rfl) (by kernel_rfl) k n
@[go_sem] theorem Tryd.cv123_53 (k : IntKind) (n : Int) : convV Tryd.prog 123 53 (.int k n) = some (.int .u64 (IntKind.wrap .u64 n)) := conv_int (P := Tryd.prog) (s := 123) (d := 53) (by kernel_rfl) (by kernel_rfl) k n
@[go_sem] theorem Tryd.cv123_70 (k : IntKind) (n : Int) : convV Tryd.prog 123 70 (.int k n) = some (.int .u64 (IntKind.wrap .u64 n)) := conv_int (P := Tryd.prog) (s := 123) (d := 70) (by kernel_rfl) (by kernel_rfl) k n
@[go_sem] theorem Tryd.cv123_71 (k : IntKind) (n : Int) : convV Tryd.prog 123 71 (.int k n) = some (.int .i64 (IntKind.wrap .i64 n)) := conv_int (P := Tryd.prog) (s := 123) (d := 71) (by kernel_rfl) (by kernel_rfl) k n
@[go_sem] theorem Tryd.cv123_104 (k : IntKind) (n : Int) : convV Tryd.prog 123 104 (.int k n) = some (.int .u32 (IntKind.wrap .u32 n)) := conv_int (P := Tryd.prog) (s := 123) (d := 104) (by kernel_rfl) (by kernel_rfl) k n
@[go_sem] theorem Tryd.cv123_122 (k : IntKind) (n : Int) : convV Tryd.prog 123 122 (.int k n) = some (.int .u8 (IntKind.wrap .u8 n)) := conv_int (P := Tryd.prog) (s := 123) (d := 122) (by kernel_rfl) (by kernel_rfl) k n
@[go_sem] theorem Tryd.cv123_125 (k : IntKind) (n : Int) : convV Tryd.prog 123 125 (.int k n) = some (.int .i32 (IntKind.wrap .i32 n)) := conv_int (P := Tryd.prog) (s := 123) (d := 125) (by kernel_rfl) (by kernel_rfl) k n
@[go_sem] theorem Tryd.cv123_126 (k : IntKind) (n : Int) : convV Tryd.prog 123 126 (.int k n) = some (.int .i32 (IntKind.wrap .i32 n)) := conv_int (P := Tryd.prog) (s := 123) (d := 126) (by kernel_rfl) (by kernel_rfl) k n
@[go_sem] theorem Tryd.cv123_140 (k : IntKind) (n : Int) : convV Tryd.prog 123 140 (.int k n) = some (.int .u16 (IntKind.wrap .u16 n)) := conv_int (P := Tryd.prog) (s := 123) (d := 140) (by kernel_rfl) (by kernel_rfl) k n
@[go_sem] theorem Tryd.cv123_144 (k : IntKind) (n : Int) : convV Tryd.prog 123 144 (.int k n) = some (.int .i32 (IntKind.wrap .i32 n)) := conv_int (P := Tryd.prog) (s := 123) (d := 144) (by kernel_rfl) (by kernel_rfl) k n
@[go_sem] theorem Tryd.cv125_2 (k : IntKind) (n : Int) : convV Tryd.prog 125 2 (.int k n) = some (.int .i64 (IntKind.wrap .i64 n)) := conv_int (P := Tryd.prog) (s := 125) (d := 2) (by kernel_rfl) (by kernel_rfl) k n
@[go_sem] theorem Tryd.cv125_3 (k : IntKind) (n : Int) : convV Tryd.prog 125 3 (.int k n) = some (.int .i64 (IntKind.wrap .i64 n)) := conv_int (P := Tryd.prog) (s := 125) (d := 3) (by kernel_rfl) (by kernel_rfl) k n
@[go_sem] theorem Tryd.cv125_5 (k : IntKind) (n : Int) : convV Tryd.prog 125 5 (.int k n) = some (.int .u8 (IntKind.wrap .u8 n)) := conv_int (P := Tryd.prog) (s := 125) (d := 5) (by kernel_rfl) (by kernel_rfl) k n
@[go_sem] theorem Tryd.cv125_6 (k : IntKind) (n : Int) : convV Tryd.prog 125 6 (.int k n) = some (.int .u8 (IntKind.wrap .u8 n)) := conv_int (P := Tryd.prog) (s := 125) (d := 6) (by kernel_rfl) (by kernel_rfl) k n
@[go_sem] theorem Tryd.cv125_12 (k : IntKind) (n : Int) : convV Tryd.prog 125 12 (.int k n) = some (.int .u64 (IntKind.wrap .u64 n)) := conv_int (P := Tryd.prog) (s := 125) (d := 12) (by kernel_rfl) (by kernel_rfl) k n
@[go_sem] theorem Tryd.cv125_21 (k : IntKind) (n : Int) : convV Tryd.prog 125 21 (.int k n) = some (.int .i32 (IntKind.wrap .i32 n)) := conv_int (P := Tryd.prog) (s := 125) (d := 21) (by kernel_rfl) (by kernel_rfl) k n
@[go_sem] theorem Tryd.cv125_24 (k : IntKind) (n : Int) : convV Tryd.prog 125 24 (.int k n) = some (.int .i64 (IntKind.wrap .i64 n)) := conv_int (P := Tryd.prog) (s := 125) (d := 24) (by kernel_rfl) (by kernel_rfl) k n
@[go_sem] theorem Tryd.cv125_53 (k : IntKind) (n : Int) : convV Tryd.prog 125 53 (.int k n) = some (.int .u64 (IntKind.wrap .u64 n)) := conv_int (P := Tryd.prog) (s := 125) (d := 53) (by kernel_rfl) (by kernel_rfl) k n
@[go_sem] theorem Tryd.cv125_70 (k : IntKind) (n : Int) : convV Tryd.prog 125 70 (.int k n) = some (.int .u64 (IntKind.wrap .u64 n)) := conv_int (P := Tryd.prog) (s := 125) (d := 70) (by kernel_rfl) (by kernel_rfl) k n
@[go_sem] theorem Tryd.cv125_71 (k : IntKind) (n : Int) : convV Tryd.prog 125 71 (.int k n) = some (.int .i64 (IntKind.wrap .i64 n)) := conv_int (P := Tryd.prog) (s := 125) (d := 71) (by kernel_rfl) (by kernel_rfl) k n
@[go_sem] theorem Tryd.cv125_104 (k : IntKind) (n : Int) : convV Tryd.prog 125 104 (.int k n) = some (.int .u32 (IntKind.wrap .u32 n)) := conv_int (P := Tryd.prog) (s := 125) (d := 104) (by kernel_rfl) (by kernel_rfl) k n
@[go_sem] theorem Tryd.cv125_122 (k : IntKind) (n : Int) : convV Tryd.prog 125 122 (.int k n) = some (.int .u8 (IntKind.wrap .u8 n)) := conv_int (P := Tryd.prog) (s := 125) (d := 122) (by kernel_rfl) (by kernel_rfl) k n
@[go_sem] theorem Tryd.cv125_123 (k : IntKind) (n : Int) : convV Tryd.prog 125 123 (.int k n) = some (.int .u8 (IntKind.wrap .u8 n)) := conv_int (P := Tryd.prog) (s := 125) (d := 123) (by kernel_rfl) (by kernel_rfl) k n
@[go_sem] theorem Tryd.cv125_126 (k : IntKind) (n : Int) : convV Tryd.prog 125 126 (.int k n) = some (.int .i32 (IntKind.wrap .i32 n)) := conv_int (P := Tryd.prog) (s := 125) (d := 126) (by kernel_rfl) (by kernel_rfl) k n
@[go_sem] theorem Tryd.cv125_140 (k : IntKind) (n : Int) : convV Tryd.prog 125 140 (.int k n) = some (.int .u16 (IntKind.wrap .u16 n)) := conv_int (P := Tryd.prog) (s := 125) (d := 140) (by kernel_rfl) (by kernel_rfl) k n
@[go_sem] theorem Tryd.cv125_144 (k : IntKind) (n : Int) : convV Tryd.prog 125 144 (.int k n) = some (.int .i32 (IntKind.wrap .i32 n)) := conv_int (P := Tryd.prog) (s := 125) (d := 144) (by kernel_rfl) (by kernel_rfl) k n
@[go_sem] theorem Tryd.cv126_2 (k : IntKind) (n : Int) : convV Tryd.prog 126 2 (.int k n) = some (.int .i64 (IntKind.wrap .i64 n)) := conv_int (P := Tryd.prog) (s := 126) (d := 2) (by kernel_rfl) (by kernel_rfl) k n
@[go_sem] theorem Tryd.cv126_3 (k : IntKind) (n : Int) : convV Tryd.prog 126 3 (.int k n) = some (.int .i64 (IntKind.wrap .i64 n)) := conv_int (P := Tryd.prog) (s := 126) (d := 3) (by kernel_rfl) (by kernel_rfl) k n
@[go_sem] theorem Tryd.cv126_5 (k : IntKind) (n : Int) : convV Tryd.prog 126 5 (.int k n) = some (.int .u8 (IntKind.wrap .u8 n)) := conv_int (P := Tryd.prog) (s := 126) (d := 5) (by kernel_rfl) (by kernel_rfl) k n
@[go_sem] theorem Tryd.cv126_6 (k : IntKind) (n : Int) : convV Tryd.prog 126 6 (.int k n) = some (.int .u8 (IntKind.wrap .u8 n)) := conv_int (P := Tryd.prog) (s := 126) (d := 6) (by kernel_rfl) (by kernel_rfl) k n
@[go_sem] theorem Tryd.cv126_12 (k : IntKind) (n : Int) : convV Tryd.prog 126 12 (.int k n) = some (.int .u64 (IntKind.wrap .u64 n)) := conv_int (P := Tryd.prog) (s := 126) (d := 12) (by kernel_rfl) (by kernel_rfl) k n
@[go_sem] theorem Tryd.cv126_21 (k : IntKind) (n : Int) : convV Tryd.prog 126 21 (.int k n) = some (.int .i32 (IntKind.wrap .i32 n)) := conv_int (P := Tryd.prog) (s := 126) (d := 21) (by kernel_rfl) (by kernel_rfl) k n
@[go_sem] theorem Tryd.cv126_24 (k : IntKind) (n : Int) : convV Tryd.prog 126 24 (.int k n) = some (.int .i64 (IntKind.wrap .i64 n)) := conv_int (P := Tryd.prog) (s := 126) (d := 24) (by kernel_rfl) (by kernel_rfl) k n
@[go_sem] theorem Tryd.cv126_53 (k : IntKind) (n : Int) : convV Tryd.prog 126 53 (.int k n) = some (.int .u64 (IntKind.wrap .u64 n)) := conv_int (P := Tryd.prog) (s := 126) (d := 53) (by kernel_rfl) (by kernel_rfl) k n
@[go_sem] theorem Tryd.cv126_70 (k : IntKind) (n : Int) : convV Tryd.prog 126 70 (.int k n) = some (.int .u64 (IntKind.wrap .u64 n)) := conv_int (P := Tryd.prog) (s := 126) (d := 70) (by kernel_rfl) (by kernel_rfl) k n
@[go_sem] theorem Tryd.cv126_71 (k : IntKind) (n : Int) : convV Tryd.prog 126 71 (.int k n) = some (.int .i64 (IntKind.wrap .i64 n)) := conv_int (P := Tryd.prog) (s := 126) (d := 71) (by kernel_rfl) (by kernel_rfl) k n
@[go_sem] theorem Tryd.cv126_104 (k : IntKind) (n : Int) : convV Tryd.prog 126 104 (.int k n) = some (.int .u32 (IntKind.wrap .u32 n)) := conv_int (P := Tryd.prog) (s := 126) (d := 104) (by kernel_rfl) (by kernel_rfl) k n
@[go_sem] theorem Tryd.cv126_122 (k : IntKind) (n : Int) : convV Tryd.prog 126 122 (.int k n) = some (.int .u8 (IntKind.wrap .u8 n)) := conv_int (P := Tryd.prog) (s := 126) (d := 122) (by kernel_rfl) (by kernel_rfl) k n
@[go_sem] theorem Tryd.cv126_123 (k : IntKind) (n : Int) : convV Tryd.prog 126 123 (.int k n) = some (.int .u8 (IntKind.wrap .u8 n)) := conv_int (P := Tryd.prog) (s := 126) (d := 123) (by kernel_rfl) (by kernel_rfl) k n
@[go_sem] theorem Tryd.cv126_125 (k : IntKind) (n : Int) : convV Tryd.prog 126 125 (.int k n) = some (.int .i32 (IntKind.wrap .i32 n)) := conv_int (P := Tryd.prog) (s := 126) (d := 125) (by kernel_rfl) (by kernel_rfl) k n
@[go_sem] theorem Tryd.cv126_140 (k : IntKind) (n : Int) : convV Tryd.prog 126 140 (.int k n) = some (.int .u16 (IntKind.wrap .u16 n)) := conv_int (P := Tryd.prog) (s := 126) (d := 140) (by kernel_rfl) (by kernel_rfl) k n
@[go_sem] theorem Tryd.cv126_144 (k : IntKind) (n : Int) : convV Tryd.prog 126 144 (.int k n) = some (.int .i32 (IntKind.wrap .i32 n)) := conv_int (P := Tryd.prog) (s := 126) (d := 144) (by kernel_rfl) (by kernel_rfl) k n
@[go_sem] theorem Tryd.cv140_2 (k : IntKind) (n : Int) : convV Tryd.prog 140 2 (.int k n) = some (.int .i64 (IntKind.wrap .i64 n)) := conv_int (P := Tryd.prog) (s := 140) (d := 2) (by kernel_rfl) (by kernel_rfl) k n
@[go_sem] theorem Tryd.cv140_3 (k : IntKind) (n : Int) : convV Tryd.prog 140 3 (.int k n) = some (.int .i64 (IntKind.wrap .i64 n)) := conv_int (P := Tryd.prog) (s := 140) (d := 3) (by kernel_rfl) (by kernel_rfl) k n
@[go_sem] theorem Tryd.cv140_5 (k : IntKind) (n : Int) : convV Tryd.prog 140 5 (.int k n) = some (.int .u8 (IntKind.wrap .u8 n)) := conv_int (P := Tryd.prog) (s := 140) (d := 5) (by kernel_rfl) (by kernel_rfl) k n
@[go_sem] theorem Tryd.cv140_6 (k : IntKind) (n : Int) : convV Tryd.prog 140 6 (.int k n) = some (.int .u8 (IntKind.wrap .u8 n)) := conv_int (P := Tryd.prog) (s := 140) (d := 6) (by kernel_rfl) (by kernel_rfl) k n
@[go_sem] theorem Tryd.cv140_12 (k : IntKind) (n : Int) : convV Tryd.prog 140 12 (.int k n) = some (.int .u64 (IntKind.wrap .u64 n)) := conv_int (P := Tryd.prog) (s := 140) (d := 12) (by kernel_rfl) (by kernel_rfl) k n
@[go_sem] theorem Tryd.cv140_21 (k : IntKind) (n : Int) : convV Tryd.prog 140 21 (.int k n) = some (.int .i32 (IntKind.wrap .i32 n)) := conv_int (P := Tryd.prog) (s := 140) (d := 21) (by kernel_rfl) (by kernel_rfl) k n
@[go_sem] theorem Tryd.cv140_24 (k : IntKind) (n : Int) : convV Tryd.prog 140 24 (.int k n) = some (.int .i64 (IntKind.wrap .i64 n)) := conv_int (P := Tryd.prog) (s := 140) (d := 24) (by kernel_rfl) (by kernel_rfl) k n
@[go_sem] theorem Tryd.cv140_53 (k : IntKind) (n : Int) : convV Tryd.prog 140 53 (.int k n) = some (.int .u64 (IntKind.wrap .u64 n)) := conv_int (P := Tryd.prog) (s := 140) (d := 53) (by kernel_rfl) (by kernel_rfl) k n
@[go_sem] theorem Tryd.cv140_70 (k : IntKind) (n : Int) : convV Tryd.prog 140 70 (.int k n) = some (.int .u64 (IntKind.wrap .u64 n)) := conv_int (P := Tryd.prog) (s := 140) (d := 70) (by kernel_rfl) (by kernel_rfl) k n
@[go_sem] theorem Tryd.cv140_71 (k : IntKind) (n : Int) : convV Tryd.prog 140 71 (.int k n) = some (.int .i64 (IntKind.wrap .i64 n)) := conv_int (P := Tryd.prog) (s := 140) (d := 71) (by kernel_rfl) (by kernel_rfl) k n
@[go_sem] theorem Tryd.cv140_104 (k : IntKind) (n : Int) : convV Tryd.prog 140 104 (.int k n) = some (.int .u32 (IntKind.wrap .u32 n)) := conv_int (P := Tryd.prog) (s := 140) (d := 104) (by kernel_rfl) (by kernel_rfl) k n
@[go_sem] theorem Tryd.cv140_122 (k : IntKind) (n : Int) : convV Tryd.prog 140 122 (.int k n) = some (.int .u8 (IntKind.wrap .u8 n)) := conv_int (P := Tryd.prog) (s := 140) (d := 122) (by kernel_rfl) (by kernel_rfl) k n
@[go_sem] theorem Tryd.cv140_123 (k : IntKind) (n : Int) : convV Tryd.prog 140 123 (.int k n) = some (.int .u8 (IntKind.wrap .u8 n)) := conv_int (P := Tryd.prog) (s := 140) (d := 123) (by kernel_rfl) (by kernel_rfl) k n
@[go_sem] theorem Tryd.cv140_125 (k : IntKind) (n : Int) : convV Tryd.prog 140 125 (.int k n) = some (.int .i32 (IntKind.wrap .i32 n)) := conv_int (P := Tryd.prog) (s := 140) (d := 125) (by kernel_rfl) (by kernel_rfl) k n
@[go_sem] theorem Tryd.cv140_126 (k : IntKind) (n : Int) : convV Tryd.prog 140 126 (.int k n) = some (.int .i32 (IntKind.wrap .i32 n)) := conv_int (P := Tryd.prog) (s := 140) (d := 126) (by kernel_rfl) (by kernel_rfl) k n
@[go_sem] theorem Tryd.cv140_144 (k : IntKind) (n : Int) : convV Tryd.prog 140 144 (.int k n) = some (.int .i32 (IntKind.wrap .i32 n)) := conv_int (P := Tryd.prog) (s := 140) (d := 144) (by kernel_rfl) (by kernel_rfl) k n
@[go_sem] theorem Tryd.cv144_2 (k : IntKind) (n : Int) : convV Tryd.prog 144 2 (.int k n) = some (.int .i64 (IntKind.wrap .i64 n)) := conv_int (P := Tryd.prog) (s := 144) (d := 2) (by kernel_rfl) (by kernel_rfl) k n
@[go_sem] theorem Tryd.cv144_3 (k : IntKind) (n : Int) : convV Tryd.prog 144 3 (.int k n) = some (.int .i64 (IntKind.wrap .i64 n)) := conv_int (P := Tryd.prog) (s := 144) (d := 3) (by kernel_rfl) (by kernel_rfl) k n
@[go_sem] theorem Tryd.cv144_5 (k : IntKind) (n : Int) : convV Tryd.prog 144 5 (.int k n) = some (.int .u8 (IntKind.wrap .u8 n)) := conv_int (P := Tryd.prog) (s := 144) (d := 5) (by kernel_rfl) (by kernel_rfl) k n
@[go_sem] theorem Tryd.cv144_6 (k : IntKind) (n : Int) : convV Tryd.prog 144 6 (.int k n) = some (.int .u8 (IntKind.wrap .u8 n)) := conv_int (P := Tryd.prog) (s := 144) (d := 6) (by kernel_rfl) (by kernel_rfl) k n
@[go_sem] theorem Tryd.cv144_12 (k : IntKind) (n : Int) : convV Tryd.prog 144 12 (.int k n) = some (.int .u64 (IntKind.wrap .u64 n)) := conv_int (P := Tryd.prog) (s := 144) (d := 12) (by kernel_rfl) (by kernel_rfl) k n
@[go_sem] theorem Tryd.cv144_21 (k : IntKind) (n : Int) : convV Tryd.prog 144 21 (.int k n) = some (.int .i32 (IntKind.wrap .i32 n)) := conv_int (P := Tryd.prog) (s := 144) (d := 21) (by kernel_rfl) (by kernel_rfl) k n
@[go_sem] theorem Tryd.cv144_24 (k : IntKind) (n : Int) : convV Tryd.prog 144 24 (.int k n) = some (.int .i64 (IntKind.wrap .i64 n)) := conv_int (P := Tryd.prog) (s := 144) (d := 24) (by kernel_rfl) (by kernel_rfl) k n
@[go_sem] theorem Tryd.cv144_53 (k : IntKind) (n : Int) : convV Tryd.prog 144 53 (.int k n) = some (.int .u64 (IntKind.wrap .u64 n)) := conv_int (P := Tryd.prog) (s := 144) (d := 53) (by kernel_rfl) (by kernel_rfl) k n
@[go_sem] theorem Tryd.cv144_70 (k : IntKind) (n : Int) : convV Tryd.prog 144 70 (.int k n) = some (.int .u64 (IntKind.wrap .u64 n)) := conv_int (P := Tryd.prog) (s := 144) (d := 70) (by kernel_rfl) (by kernel_rfl) k n
@[go_sem] theorem Tryd.cv144_71 (k : IntKind) (n : Int) : convV Tryd.prog 144 71 (.int k n) = some (.int .i64 (IntKind.wrap .i64 n)) := conv_int (P := Tryd.prog) (s := 144) (d := 71) (by kernel_rfl) (by kernel_rfl) k n
@[go_sem] theorem Tryd.cv144_104 (k : IntKind) (n : Int) : convV Tryd.prog 144 104 (.int k n) = some (.int .u32 (IntKind.wrap .u32 n)) := conv_int (P := Tryd.prog) (s := 144) (d := 104) (by kernel_rfl) (by kernel_rfl) k n
@[go_sem] theorem Tryd.cv144_122 (k : IntKind) (n : Int) : convV Tryd.prog 144 122 (.int k n) = some (.int .u8 (IntKind.wrap .u8 n)) := conv_int (P := Tryd.prog) (s := 144) (d := 122) (by kernel_rfl) (by kernel_rfl) k n
@[go_sem] theorem Tryd.cv144_123 (k : IntKind) (n : Int) : convV Tryd.prog 144 123 (.int k n) = some (.int .u8 (IntKind.wrap .u8 n)) := conv_int (P := Tryd.prog) (s := 144) (d := 123) (by kernel_rfl) (by kernel_rfl) k n
@[go_sem] theorem Tryd.cv144_125 (k : IntKind) (n : Int) : convV Tryd.prog 144 125 (.int k n) = some (.int .i32 (IntKind.wrap .i32 n)) := conv_int (P := Tryd.prog) (s := 144) (d := 125) (by kernel_rfl) (by kernel_rfl) k n
@[go_sem] theorem Tryd.cv144_126 (k : IntKind) (n : Int) : convV Tryd.prog 144 126 (.int k n) = some (.int .i32 (IntKind.wrap .i32 n)) := conv_int (P := Tryd.prog) (s := 144) (d := 126) (by kernel_rfl) (by kernel_rfl) k n
@[go_sem] theorem Tryd.cv144_140 (k : IntKind) (n : Int) : convV Tryd.prog 144 140 (.int k n) = some (.int .u16 (IntKind.wrap .u16 n)) := conv_int (P := Tryd.prog) (s := 144) (d := 140) (by kernel_rfl) (by kernel_rfl) k n
end Go.Hs
end
