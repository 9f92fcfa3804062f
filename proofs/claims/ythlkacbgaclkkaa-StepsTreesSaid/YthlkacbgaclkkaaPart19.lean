/- Part 19 of the proof of a statement of seat Ythlkacbgaclkkaa: HsFacts1. -/
import Derived.Test.YthlkacbgaclkkaaProg
import Derived.Test.YthlkacbgaclkkaaPart18
import Derived.KernelRfl
set_option linter.unusedSimpArgs false
set_option linter.unusedVariables false
section
/- Facts about the seat's types, for the library Hs: written by a program (genfacts.py). -/
namespace Go.Hs
open Go.Proofs
theorem Try.shape1 : shapeOf Try.prog 1 = some (false, 1) := by kernel_rfl
@[go_sem] theorem Try.load1 (H : Heap) (a : V) : readV Try.prog H 1 a = loadK (some (false, 1)) (obOf H a) a := readV_K Try.shape1 H a
@[go_sem] theorem Try.sz1 : szOf Try.prog 1 = some 1 := by kernel_rfl
@[go_sem] theorem Try.bytes1 : bytesV Try.prog 1 = some 8 := by kernel_rfl
@[go_sem] theorem Try.agg1 : isAggB Try.prog 1 = some false := by kernel_rfl
@[go_sem] theorem Try.zero1 : zeroC Try.prog 1 = some [.nilf] := by kernel_rfl
theorem Try.nk1 : nilKind Try.prog 1 = 3 := by kernel_rfl
@[go_sem] theorem Try.eqn1 (a : V) : binV Try.prog .eql 1 a .nilf = (nilK 3 a).map .bool := (binV_nil _ _ Try.nk1 (by simp) a).1
@[go_sem] theorem Try.nen1 (a : V) : binV Try.prog .neq 1 a .nilf = (nilK 3 a).map fun r => .bool (!r) := (binV_nil _ _ Try.nk1 (by simp) a).2
theorem Try.shape2 : shapeOf Try.prog 2 = some (false, 1) := by kernel_rfl
@[go_sem] theorem Try.load2 (H : Heap) (a : V) : readV Try.prog H 2 a = loadK (some (false, 1)) (obOf H a) a := readV_K Try.shape2 H a
@[go_sem] theorem Try.sz2 : szOf Try.prog 2 = some 1 := by kernel_rfl
@[go_sem] theorem Try.bytes2 : bytesV Try.prog 2 = some 8 := by kernel_rfl
@[go_sem] theorem Try.agg2 : isAggB Try.prog 2 = some false := by kernel_rfl
@[go_sem] theorem Try.zero2 : zeroC Try.prog 2 = some [.int .i64 0] := by kernel_rfl
theorem Try.shape3 : shapeOf Try.prog 3 = some (false, 1) := by kernel_rfl
@[go_sem] theorem Try.load3 (H : Heap) (a : V) : readV Try.prog H 3 a = loadK (some (false, 1)) (obOf H a) a := readV_K Try.shape3 H a
@[go_sem] theorem Try.sz3 : szOf Try.prog 3 = some 1 := by kernel_rfl
@[go_sem] theorem Try.bytes3 : bytesV Try.prog 3 = some 8 := by kernel_rfl
@[go_sem] theorem Try.agg3 : isAggB Try.prog 3 = some false := by kernel_rfl
@[go_sem] theorem Try.zero3 : zeroC Try.prog 3 = some [.int .i64 0] := by kernel_rfl
theorem Try.shape4 : shapeOf Try.prog 4 = some (false, 1) := by kernel_rfl
@[go_sem] theorem Try.load4 (H : Heap) (a : V) : readV Try.prog H 4 a = loadK (some (false, 1)) (obOf H a) a := readV_K Try.shape4 H a
@[go_sem] theorem Try.sz4 : szOf Try.prog 4 = some 1 := by kernel_rfl
@[go_sem] theorem Try.bytes4 : bytesV Try.prog 4 = some 1 := by kernel_rfl
@[go_sem] theorem Try.agg4 : isAggB Try.prog 4 = some false := by kernel_rfl
@[go_sem] theorem Try.zero4 : zeroC Try.prog 4 = some [.bool false] := by kernel_rfl
@[go_sem] theorem Try.eqb4 (a b : Bool) : binV Try.prog .eql 4 (.bool a) (.bool b) = some (.bool (a == b)) := (binV_bool (P := Try.prog) (by kernel_rfl) a b).1
@[go_sem] theorem Try.neb4 (a b : Bool) : binV Try.prog .neq 4 (.bool a) (.bool b) = some (.bool (a != b)) := (binV_bool (P := Try.prog) (by kernel_rfl) a b).2
theorem Try.shape5 : shapeOf Try.prog 5 = some (false, 1) := by kernel_rfl
@[go_sem] theorem Try.load5 (H : Heap) (a : V) : readV Try.prog H 5 a = loadK (some (false, 1)) (obOf H a) a := readV_K Try.shape5 H a
@[go_sem] theorem Try.sz5 : szOf Try.prog 5 = some 1 := by kernel_rfl
@[go_sem] theorem Try.bytes5 : bytesV Try.prog 5 = some 1 := by kernel_rfl
@[go_sem] theorem Try.agg5 : isAggB Try.prog 5 = some false := by kernel_rfl
@[go_sem] theorem Try.zero5 : zeroC Try.prog 5 = some [.int .u8 0] := by kernel_rfl
theorem Try.shape6 : shapeOf Try.prog 6 = some (false, 1) := by kernel_rfl
@[go_sem] theorem Try.load6 (H : Heap) (a : V) : readV Try.prog H 6 a = loadK (some (false, 1)) (obOf H a) a := readV_K Try.shape6 H a
@[go_sem] theorem Try.sz6 : szOf Try.prog 6 = some 1 := by kernel_rfl
@[go_sem] theorem Try.bytes6 : bytesV Try.prog 6 = some 1 := by kernel_rfl
@[go_sem] theorem Try.agg6 : isAggB Try.prog 6 = some false := by kernel_rfl
@[go_sem] theorem Try.zero6 : zeroC Try.prog 6 = some [.int .u8 0] := by kernel_rfl
theorem Try.shape7 : shapeOf Try.prog 7 = some (true, 4) := by kernel_rfl
@[go_sem] theorem Try.load7 (H : Heap) (a : V) : readV Try.prog H 7 a = loadK (some (true, 4)) (obOf H a) a := readV_K Try.shape7 H a
@[go_sem] theorem Try.sz7 : szOf Try.prog 7 = some 4 := by kernel_rfl
@[go_sem] theorem Try.bytes7 : bytesV Try.prog 7 = some 24 := by kernel_rfl
@[go_sem] theorem Try.agg7 : isAggB Try.prog 7 = some true := by kernel_rfl
@[go_sem] theorem Try.zero7 : zeroC Try.prog 7 = some [.int .i64 0, .int .i64 0, .bool false, .int .u8 0] := by kernel_rfl
theorem Try.zeroV7 : zeroV Try.prog 7 = some (.agg [.int .i64 0, .int .i64 0, .bool false, .int .u8 0]) := by kernel_rfl
@[go_sem] theorem Try.bld7 (l : List (Nat × V)) : buildV Try.prog 7 l = (fillV (tblP [(0, 1), (1, 1), (2, 1), (3, 1)]) [.int .i64 0, .int .i64 0, .bool false, .int .u8 0] l).map .agg := buildV_K (P := Try.prog) (t := 7) (tbl := [(0, 1), (1, 1), (2, 1), (3, 1)]) (z := [.int .i64 0, .int .i64 0, .bool false, .int .u8 0]) (by kernel_rfl) (by kernel_rfl) l
theorem Try.fld7_0 : fldOf Try.prog 7 0 = some (0, false, 1) := by kernel_rfl
@[go_sem] theorem Try.fa7_0 (a : V) : fieldAddrV Try.prog 7 a 0 = fldK (some (0, false, 1)) a := fieldAddrV_K Try.fld7_0 a
@[go_sem] theorem Try.fv7_0 (l : List V) : fieldV Try.prog 7 (.agg l) 0 = partC false 1 l 0 := fieldV_K Try.fld7_0 l
theorem Try.fld7_1 : fldOf Try.prog 7 1 = some (1, false, 1) := by kernel_rfl
@[go_sem] theorem Try.fa7_1 (a : V) : fieldAddrV Try.prog 7 a 1 = fldK (some (1, false, 1)) a := fieldAddrV_K Try.fld7_1 a
@[go_sem] theorem Try.fv7_1 (l : List V) : fieldV Try.prog 7 (.agg l) 1 = partC false 1 l 1 := fieldV_K Try.fld7_1 l
theorem Try.fld7_2 : fldOf Try.prog 7 2 = some (2, false, 1) := by kernel_rfl
@[go_sem] theorem Try.fa7_2 (a : V) : fieldAddrV Try.prog 7 a 2 = fldK (some (2, false, 1)) a := fieldAddrV_K Try.fld7_2 a
@[go_sem] theorem Try.fv7_2 (l : List V) : fieldV Try.prog 7 (.agg l) 2 = partC false 1 l 2 := fieldV_K Try.fld7_2 l
theorem Try.fld7_3 : fldOf Try.prog 7 3 = some (3, false, 1) := by kernel_rfl
@[go_sem] theorem Try.fa7_3 (a : V) : fieldAddrV Try.prog 7 a 3 = fldK (some (3, false, 1)) a := fieldAddrV_K Try.fld7_3 a
@[go_sem] theorem Try.fv7_3 (l : List V) : fieldV Try.prog 7 (.agg l) 3 = partC false 1 l 3 := fieldV_K Try.fld7_3 l
theorem Try.shape8 : shapeOf Try.prog 8 = some (true, 4) := by kernel_rfl
@[go_sem] theorem Try.load8 (H : Heap) (a : V) : readV Try.prog H 8 a = loadK (some (true, 4)) (obOf H a) a := readV_K Try.shape8 H a
@[go_sem] theorem Try.sz8 : szOf Try.prog 8 = some 4 := by kernel_rfl
@[go_sem] theorem Try.bytes8 : bytesV Try.prog 8 = some 24 := by kernel_rfl
@[go_sem] theorem Try.agg8 : isAggB Try.prog 8 = some true := by kernel_rfl
@[go_sem] theorem Try.zero8 : zeroC Try.prog 8 = some [.int .i64 0, .int .i64 0, .bool false, .int .u8 0] := by kernel_rfl
theorem Try.zeroV8 : zeroV Try.prog 8 = some (.agg [.int .i64 0, .int .i64 0, .bool false, .int .u8 0]) := by kernel_rfl
@[go_sem] theorem Try.bld8 (l : List (Nat × V)) : buildV Try.prog 8 l = (fillV (tblP [(0, 1), (1, 1), (2, 1), (3, 1)]) [.int .i64 0, .int .i64 0, .bool false, .int .u8 0] l).map .agg := buildV_K (P := Try.prog) (t := 8) (tbl := [(0, 1), (1, 1), (2, 1), (3, 1)]) (z := [.int .i64 0, .int .i64 0, .bool false, .int .u8 0]) (by kernel_rfl) (by kernel_rfl) l
theorem Try.fld8_0 : fldOf Try.prog 8 0 = some (0, false, 1) := by kernel_rfl
@[go_sem] theorem Try.fa8_0 (a : V) : fieldAddrV Try.prog 8 a 0 = fldK (some (0, false, 1)) a := fieldAddrV_K Try.fld8_0 a
@[go_sem] theorem Try.fv8_0 (l : List V) : fieldV Try.prog 8 (.agg l) 0 = partC false 1 l 0 := fieldV_K Try.fld8_0 l
theorem Try.fld8_1 : fldOf Try.prog 8 1 = some (1, false, 1) := by kernel_rfl
@[go_sem] theorem Try.fa8_1 (a : V) : fieldAddrV Try.prog 8 a 1 = fldK (some (1, false, 1)) a := fieldAddrV_K Try.fld8_1 a
@[go_sem] theorem Try.fv8_1 (l : List V) : fieldV Try.prog 8 (.agg l) 1 = partC false 1 l 1 := fieldV_K Try.fld8_1 l
theorem Try.fld8_2 : fldOf Try.prog 8 2 = some (2, false, 1) := by kernel_rfl
@[go_sem] theorem Try.fa8_2 (a : V) : fieldAddrV Try.prog 8 a 2 = fldK (some (2, false, 1)) a := fieldAddrV_K Try.fld8_2 a
@[go_sem] theorem Try.fv8_2 (l : List V) : fieldV Try.prog 8 (.agg l) 2 = partC false 1 l 2 := fieldV_K Try.fld8_2 l
theorem Try.fld8_3 : fldOf Try.prog 8 3 = some (3, false, 1) := by kernel_rfl
@[go_sem] theorem Try.fa8_3 (a : V) : fieldAddrV Try.prog 8 a 3 = fldK (some (3, false, 1)) a := fieldAddrV_K Try.fld8_3 a
@[go_sem] theorem Try.fv8_3 (l : List V) : fieldV Try.prog 8 (.agg l) 3 = partC false 1 l 3 := fieldV_K Try.fld8_3 l
theorem Try.shape9 : shapeOf Try.prog 9 = some (false, 1) := by kernel_rfl
@[go_sem] theorem Try.load9 (H : Heap) (a : V) : readV Try.prog H 9 a = loadK (some (false, 1)) (obOf H a) a := readV_K Try.shape9 H a
@[go_sem] theorem Try.sz9 : szOf Try.prog 9 = some 1 := by kernel_rfl
@[go_sem] theorem Try.bytes9 : bytesV Try.prog 9 = some 16 := by kernel_rfl
@[go_sem] theorem Try.agg9 : isAggB Try.prog 9 = some false := by kernel_rfl
@[go_sem] theorem Try.zero9 : zeroC Try.prog 9 = some [.str []] := by kernel_rfl
theorem Try.str9 : isStr Try.prog 9 = true := by kernel_rfl
@[go_sem] theorem Try.len9 (a : V) : lenV Try.prog 9 a = lenK false a := lenV_str Try.str9 a
theorem Try.shape10 : shapeOf Try.prog 10 = some (false, 1) := by kernel_rfl
@[go_sem] theorem Try.load10 (H : Heap) (a : V) : readV Try.prog H 10 a = loadK (some (false, 1)) (obOf H a) a := readV_K Try.shape10 H a
@[go_sem] theorem Try.sz10 : szOf Try.prog 10 = some 1 := by kernel_rfl
@[go_sem] theorem Try.bytes10 : bytesV Try.prog 10 = some 16 := by kernel_rfl
@[go_sem] theorem Try.agg10 : isAggB Try.prog 10 = some false := by kernel_rfl
@[go_sem] theorem Try.zero10 : zeroC Try.prog 10 = some [.str []] := by kernel_rfl
theorem Try.str10 : isStr Try.prog 10 = true := by kernel_rfl
@[go_sem] theorem Try.len10 (a : V) : lenV Try.prog 10 a = lenK false a := lenV_str Try.str10 a
theorem Try.shape11 : shapeOf Try.prog 11 = some (false, 1) := by kernel_rfl
@[go_sem] theorem Try.load11 (H : Heap) (a : V) : readV Try.prog H 11 a = loadK (some (false, 1)) (obOf H a) a := readV_K Try.shape11 H a
@[go_sem] theorem Try.sz11 : szOf Try.prog 11 = some 1 := by kernel_rfl
@[go_sem] theorem Try.bytes11 : bytesV Try.prog 11 = some 16 := by kernel_rfl
@[go_sem] theorem Try.agg11 : isAggB Try.prog 11 = some false := by kernel_rfl
@[go_sem] theorem Try.zero11 : zeroC Try.prog 11 = some [.str []] := by kernel_rfl
theorem Try.str11 : isStr Try.prog 11 = true := by kernel_rfl
@[go_sem] theorem Try.len11 (a : V) : lenV Try.prog 11 a = lenK false a := lenV_str Try.str11 a
theorem Try.shape12 : shapeOf Try.prog 12 = some (false, 1) := by kernel_rfl
@[go_sem] theorem Try.load12 (H : Heap) (a : V) : readV Try.prog H 12 a = loadK (some (false, 1)) (obOf H a) a := readV_K Try.shape12 H a
@[go_sem] theorem Try.sz12 : szOf Try.prog 12 = some 1 := by kernel_rfl
@[go_sem] theorem Try.bytes12 : bytesV Try.prog 12 = some 8 := by kernel_rfl
@[go_sem] theorem Try.agg12 : isAggB Try.prog 12 = some false := by kernel_rfl
@[go_sem] theorem Try.zero12 : zeroC Try.prog 12 = some [.int .u64 0] := by kernel_rfl
theorem Try.shape13 : shapeOf Try.prog 13 = some (true, 2) := by kernel_rfl
@[go_sem] theorem Try.load13 (H : Heap) (a : V) : readV Try.prog H 13 a = loadK (some (true, 2)) (obOf H a) a := readV_K Try.shape13 H a
@[go_sem] theorem Try.sz13 : szOf Try.prog 13 = some 2 := by kernel_rfl
@[go_sem] theorem Try.bytes13 : bytesV Try.prog 13 = some 24 := by kernel_rfl
@[go_sem] theorem Try.agg13 : isAggB Try.prog 13 = some true := by kernel_rfl
@[go_sem] theorem Try.zero13 : zeroC Try.prog 13 = some [.str [], .int .u64 0] := by kernel_rfl
theorem Try.zeroV13 : zeroV Try.prog 13 = some (.agg [.str [], .int .u64 0]) := by kernel_rfl
@[go_sem] theorem Try.bld13 (l : List (Nat × V)) : buildV Try.prog 13 l = (fillV (tblP [(0, 1), (1, 1)]) [.str [], .int .u64 0] l).map .agg := buildV_K (P := Try.prog) (t := 13) (tbl := [(0, 1), (1, 1)]) (z := [.str [], .int .u64 0]) (by kernel_rfl) (by kernel_rfl) l
theorem Try.fld13_0 : fldOf Try.prog 13 0 = some (0, false, 1) := by kernel_rfl
@[go_sem] theorem Try.fa13_0 (a : V) : fieldAddrV Try.prog 13 a 0 = fldK (some (0, false, 1)) a := fieldAddrV_K Try.fld13_0 a
@[go_sem] theorem Try.fv13_0 (l : List V) : fieldV Try.prog 13 (.agg l) 0 = partC false 1 l 0 := fieldV_K Try.fld13_0 l
theorem Try.fld13_1 : fldOf Try.prog 13 1 = some (1, false, 1) := by kernel_rfl
@[go_sem] theorem Try.fa13_1 (a : V) : fieldAddrV Try.prog 13 a 1 = fldK (some (1, false, 1)) a := fieldAddrV_K Try.fld13_1 a
@[go_sem] theorem Try.fv13_1 (l : List V) : fieldV Try.prog 13 (.agg l) 1 = partC false 1 l 1 := fieldV_K Try.fld13_1 l
theorem Try.shape14 : shapeOf Try.prog 14 = some (true, 2) := by kernel_rfl
@[go_sem] theorem Try.load14 (H : Heap) (a : V) : readV Try.prog H 14 a = loadK (some (true, 2)) (obOf H a) a := readV_K Try.shape14 H a
@[go_sem] theorem Try.sz14 : szOf Try.prog 14 = some 2 := by kernel_rfl
@[go_sem] theorem Try.bytes14 : bytesV Try.prog 14 = some 24 := by kernel_rfl
@[go_sem] theorem Try.agg14 : isAggB Try.prog 14 = some true := by kernel_rfl
@[go_sem] theorem Try.zero14 : zeroC Try.prog 14 = some [.str [], .int .u64 0] := by kernel_rfl
theorem Try.zeroV14 : zeroV Try.prog 14 = some (.agg [.str [], .int .u64 0]) := by kernel_rfl
@[go_sem] theorem Try.bld14 (l : List (Nat × V)) : buildV Try.prog 14 l = (fillV (tblP [(0, 1), (1, 1)]) [.str [], .int .u64 0] l).map .agg := buildV_K (P := Try.prog) (t := 14) (tbl := [(0, 1), (1, 1)]) (z := [.str [], .int .u64 0]) (by kernel_rfl) (by kernel_rfl) l
theorem Try.fld14_0 : fldOf Try.prog 14 0 = some (0, false, 1) := by kernel_rfl
@[go_sem] theorem Try.fa14_0 (a : V) : fieldAddrV Try.prog 14 a 0 = fldK (some (0, false, 1)) a := fieldAddrV_K Try.fld14_0 a
@[go_sem] theorem Try.fv14_0 (l : List V) : fieldV Try.prog 14 (.agg l) 0 = partC false 1 l 0 := fieldV_K Try.fld14_0 l
theorem Try.fld14_1 : fldOf Try.prog 14 1 = some (1, false, 1) := by kernel_rfl
@[go_sem] theorem Try.fa14_1 (a : V) : fieldAddrV Try.prog 14 a 1 = fldK (some (1, false, 1)) a := fieldAddrV_K Try.fld14_1 a
@[go_sem] theorem Try.fv14_1 (l : List V) : fieldV Try.prog 14 (.agg l) 1 = partC false 1 l 1 := fieldV_K Try.fld14_1 l
theorem Try.shape15 : shapeOf Try.prog 15 = some (false, 1) := by kernel_rfl
@[go_sem] theorem Try.load15 (H : Heap) (a : V) : readV Try.prog H 15 a = loadK (some (false, 1)) (obOf H a) a := readV_K Try.shape15 H a
@[go_sem] theorem Try.sz15 : szOf Try.prog 15 = some 1 := by kernel_rfl
@[go_sem] theorem Try.bytes15 : bytesV Try.prog 15 = some 8 := by kernel_rfl
@[go_sem] theorem Try.agg15 : isAggB Try.prog 15 = some false := by kernel_rfl
@[go_sem] theorem Try.zero15 : zeroC Try.prog 15 = some [.nilp] := by kernel_rfl
theorem Try.nk15 : nilKind Try.prog 15 = 1 := by kernel_rfl
@[go_sem] theorem Try.eqn15 (a : V) : binV Try.prog .eql 15 a .nilp = (nilK 1 a).map .bool := (binV_nil _ _ Try.nk15 (by simp) a).1
@[go_sem] theorem Try.nen15 (a : V) : binV Try.prog .neq 15 a .nilp = (nilK 1 a).map fun r => .bool (!r) := (binV_nil _ _ Try.nk15 (by simp) a).2
theorem Try.shape16 : shapeOf Try.prog 16 = some (false, 1) := by kernel_rfl
@[go_sem] theorem Try.load16 (H : Heap) (a : V) : readV Try.prog H 16 a = loadK (some (false, 1)) (obOf H a) a := readV_K Try.shape16 H a
@[go_sem] theorem Try.sz16 : szOf Try.prog 16 = some 1 := by kernel_rfl
@[go_sem] theorem Try.bytes16 : bytesV Try.prog 16 = some 8 := by kernel_rfl
@[go_sem] theorem Try.agg16 : isAggB Try.prog 16 = some false := by kernel_rfl
@[go_sem] theorem Try.zero16 : zeroC Try.prog 16 = some [.nilp] := by kernel_rfl
theorem Try.nk16 : nilKind Try.prog 16 = 1 := by kernel_rfl
@[go_sem] theorem Try.eqn16 (a : V) : binV Try.prog .eql 16 a .nilp = (nilK 1 a).map .bool := (binV_nil _ _ Try.nk16 (by simp) a).1
@[go_sem] theorem Try.nen16 (a : V) : binV Try.prog .neq 16 a .nilp = (nilK 1 a).map fun r => .bool (!r) := (binV_nil _ _ Try.nk16 (by simp) a).2
theorem Try.shape17 : shapeOf Try.prog 17 = some (false, 1) := by kernel_rfl
@[go_sem] theorem Try.load17 (H : Heap) (a : V) : readV Try.prog H 17 a = loadK (some (false, 1)) (obOf H a) a := readV_K Try.shape17 H a
@[go_sem] theorem Try.sz17 : szOf Try.prog 17 = some 1 := by kernel_rfl
@[go_sem] theorem Try.bytes17 : bytesV Try.prog 17 = some 8 := by kernel_rfl
@[go_sem] theorem Try.agg17 : isAggB Try.prog 17 = some false := by kernel_rfl
@[go_sem] theorem Try.zero17 : zeroC Try.prog 17 = some [.nilp] := by kernel_rfl
theorem Try.nk17 : nilKind Try.prog 17 = 1 := by kernel_rfl
@[go_sem] theorem Try.eqn17 (a : V) : binV Try.prog .eql 17 a .nilp = (nilK 1 a).map .bool := (binV_nil _ _ Try.nk17 (by simp) a).1
@[go_sem] theorem Try.nen17 (a : V) : binV Try.prog .neq 17 a .nilp = (nilK 1 a).map fun r => .bool (!r) := (binV_nil _ _ Try.nk17 (by simp) a).2
theorem Try.shape18 : shapeOf Try.prog 18 = some (true, 1) := by kernel_rfl
@[go_sem] theorem Try.load18 (H : Heap) (a : V) : readV Try.prog H 18 a = loadK (some (true, 1)) (obOf H a) a := readV_K Try.shape18 H a
@[go_sem] theorem Try.sz18 : szOf Try.prog 18 = some 1 := by kernel_rfl
@[go_sem] theorem Try.bytes18 : bytesV Try.prog 18 = some 8 := by kernel_rfl
@[go_sem] theorem Try.agg18 : isAggB Try.prog 18 = some true := by kernel_rfl
@[go_sem] theorem Try.zero18 : zeroC Try.prog 18 = some [.nilp] := by kernel_rfl
theorem Try.zeroV18 : zeroV Try.prog 18 = some (.agg [.nilp]) := by kernel_rfl
@[go_sem] theorem Try.bld18 (l : List (Nat × V)) : buildV Try.prog 18 l = (fillV (tblP [(0, 1)]) [.nilp] l).map .agg := buildV_K (P := Try.prog) (t := 18) (tbl := [(0, 1)]) (z := [.nilp]) (by kernel_rfl) (by kernel_rfl) l
theorem Try.fld18_0 : fldOf Try.prog 18 0 = some (0, false, 1) := by kernel_rfl
@[go_sem] theorem Try.fa18_0 (a : V) : fieldAddrV Try.prog 18 a 0 = fldK (some (0, false, 1)) a := fieldAddrV_K Try.fld18_0 a
@[go_sem] theorem Try.fv18_0 (l : List V) : fieldV Try.prog 18 (.agg l) 0 = partC false 1 l 0 := fieldV_K Try.fld18_0 l
theorem Try.shape19 : shapeOf Try.prog 19 = some (true, 1) := by kernel_rfl
@[go_sem] theorem Try.load19 (H : Heap) (a : V) : readV Try.prog H 19 a = loadK (some (true, 1)) (obOf H a) a := readV_K Try.shape19 H a
@[go_sem] theorem Try.sz19 : szOf Try.prog 19 = some 1 := by kernel_rfl
@[go_sem] theorem Try.bytes19 : bytesV Try.prog 19 = some 8 := by kernel_rfl
@[go_sem] theorem Try.agg19 : isAggB Try.prog 19 = some true := by kernel_rfl
@[go_sem] theorem Try.zero19 : zeroC Try.prog 19 = some [.nilp] := by kernel_rfl
theorem Try.zeroV19 : zeroV Try.prog 19 = some (.agg [.nilp]) := by kernel_rfl
@[go_sem] theorem Try.bld19 (l : List (Nat × V)) : buildV Try.prog 19 l = (fillV (tblP [(0, 1)]) [.nilp] l).map .agg := buildV_K (P := Try.prog) (t := 19) (tbl := [(0, 1)]) (z := [.nilp]) (by kernel_rfl) (by kernel_rfl) l
theorem Try.fld19_0 : fldOf Try.prog 19 0 = some (0, false, 1) := by kernel_rfl
@[go_sem] theorem Try.fa19_0 (a : V) : fieldAddrV Try.prog 19 a 0 = fldK (some (0, false, 1)) a := fieldAddrV_K Try.fld19_0 a
@[go_sem] theorem Try.fv19_0 (l : List V) : fieldV Try.prog 19 (.agg l) 0 = partC false 1 l 0 := fieldV_K Try.fld19_0 l
theorem Try.shape20 : shapeOf Try.prog 20 = some (false, 1) := by kernel_rfl
@[go_sem] theorem Try.load20 (H : Heap) (a : V) : readV Try.prog H 20 a = loadK (some (false, 1)) (obOf H a) a := readV_K Try.shape20 H a
@[go_sem] theorem Try.sz20 : szOf Try.prog 20 = some 1 := by kernel_rfl
@[go_sem] theorem Try.bytes20 : bytesV Try.prog 20 = some 16 := by kernel_rfl
@[go_sem] theorem Try.agg20 : isAggB Try.prog 20 = some false := by kernel_rfl
@[go_sem] theorem Try.zero20 : zeroC Try.prog 20 = some [.nili] := by kernel_rfl
theorem Try.nk20 : nilKind Try.prog 20 = 4 := by kernel_rfl
@[go_sem] theorem Try.eqn20 (a : V) : binV Try.prog .eql 20 a .nili = (nilK 4 a).map .bool := (binV_nil _ _ Try.nk20 (by simp) a).1
@[go_sem] theorem Try.nen20 (a : V) : binV Try.prog .neq 20 a .nili = (nilK 4 a).map fun r => .bool (!r) := (binV_nil _ _ Try.nk20 (by simp) a).2
theorem Try.shape21 : shapeOf Try.prog 21 = some (false, 1) := by kernel_rfl
@[go_sem] theorem Try.load21 (H : Heap) (a : V) : readV Try.prog H 21 a = loadK (some (false, 1)) (obOf H a) a := readV_K Try.shape21 H a
@[go_sem] theorem Try.sz21 : szOf Try.prog 21 = some 1 := by kernel_rfl
@[go_sem] theorem Try.bytes21 : bytesV Try.prog 21 = some 4 := by kernel_rfl
@[go_sem] theorem Try.agg21 : isAggB Try.prog 21 = some false := by kernel_rfl
@[go_sem] theorem Try.zero21 : zeroC Try.prog 21 = some [.int .i32 0] := by kernel_rfl
theorem Try.shape22 : shapeOf Try.prog 22 = some (false, 1) := by kernel_rfl
@[go_sem] theorem Try.load22 (H : Heap) (a : V) : readV Try.prog H 22 a = loadK (some (false, 1)) (obOf H a) a := readV_K Try.shape22 H a
@[go_sem] theorem Try.sz22 : szOf Try.prog 22 = some 1 := by kernel_rfl
@[go_sem] theorem Try.bytes22 : bytesV Try.prog 22 = some 24 := by kernel_rfl
@[go_sem] theorem Try.agg22 : isAggB Try.prog 22 = some false := by kernel_rfl
@[go_sem] theorem Try.zero22 : zeroC Try.prog 22 = some [.nils] := by kernel_rfl
theorem Try.nk22 : nilKind Try.prog 22 = 2 := by kernel_rfl
@[go_sem] theorem Try.eqn22 (a : V) : binV Try.prog .eql 22 a .nils = (nilK 2 a).map .bool := (binV_nil _ _ Try.nk22 (by simp) a).1
@[go_sem] theorem Try.nen22 (a : V) : binV Try.prog .neq 22 a .nils = (nilK 2 a).map fun r => .bool (!r) := (binV_nil _ _ Try.nk22 (by simp) a).2
theorem Try.elem22 : elemOf Try.prog 22 = some 3 := by kernel_rfl
@[go_sem] theorem Try.idx22 (a i : V) : indexAddrV Try.prog 22 a i = idxK (some 3) a i := indexAddrV_K Try.elem22 a i
@[go_sem] theorem Try.len22 (a : V) : lenV Try.prog 22 a = lenK true a := lenV_slice Try.elem22 a
@[go_sem] theorem Try.sl22 (a : V) (lo hi : Option V) : sliceV Try.prog 22 a lo hi none = slK 3 a lo hi := sliceV_K Try.elem22 a lo hi
@[go_sem] theorem Try.bs22 (n : Nat) (l : List (Nat × V)) : bsCells Try.prog 22 n l = bsK 3 [.int .u8 0, .int .i64 0, .nils] n l := bsCells_K (P := Try.prog) (t := 22) (e := 43) (m := 3) (z := [.int .u8 0, .int .i64 0, .nils]) (by kernel_rfl) (by kernel_rfl) (by kernel_rfl) rfl n l
@[go_sem] theorem Try.ms22 (a b : V) : msCells Try.prog 22 a b = msK 3 40 [.int .u8 0, .int .i64 0, .nils] a b := msCells_K (P := Try.prog) (t := 22) (e := 43) (E := 3) (bytes := 40) (z := [.int .u8 0, .int .i64 0, .nils]) (by kernel_rfl) (by kernel_rfl) (by kernel_rfl) (by kernel_rfl) rfl a b
theorem Try.app22 : appOf Try.prog [22, 22] = some (3, 40) := by kernel_rfl
@[go_sem] theorem Try.appc22 (E : Ent) (ops : Array Oper) (Q : AS → Prop) (rest : List Oper) (e : Nat) (τ : Nat → V) (H : Heap) (a b : V) : appC Try.prog E ops Q rest e τ H [22, 22] a b = appE Try.prog E ops Q rest e τ H 3 40 a (srcCells H 3 b) (obS H a) := appC_E ops Try.app22 e a b
theorem Try.shape23 : shapeOf Try.prog 23 = some (true, 1) := by kernel_rfl
@[go_sem] theorem Try.load23 (H : Heap) (a : V) : readV Try.prog H 23 a = loadK (some (true, 1)) (obOf H a) a := readV_K Try.shape23 H a
@[go_sem] theorem Try.sz23 : szOf Try.prog 23 = some 1 := by kernel_rfl
@[go_sem] theorem Try.bytes23 : bytesV Try.prog 23 = some 24 := by kernel_rfl
@[go_sem] theorem Try.agg23 : isAggB Try.prog 23 = some true := by kernel_rfl
@[go_sem] theorem Try.zero23 : zeroC Try.prog 23 = some [.nils] := by kernel_rfl
theorem Try.zeroV23 : zeroV Try.prog 23 = some (.agg [.nils]) := by kernel_rfl
@[go_sem] theorem Try.bld23 (l : List (Nat × V)) : buildV Try.prog 23 l = (fillV (tblP [(0, 1)]) [.nils] l).map .agg := buildV_K (P := Try.prog) (t := 23) (tbl := [(0, 1)]) (z := [.nils]) (by kernel_rfl) (by kernel_rfl) l
theorem Try.fld23_0 : fldOf Try.prog 23 0 = some (0, false, 1) := by kernel_rfl
@[go_sem] theorem Try.fa23_0 (a : V) : fieldAddrV Try.prog 23 a 0 = fldK (some (0, false, 1)) a := fieldAddrV_K Try.fld23_0 a
@[go_sem] theorem Try.fv23_0 (l : List V) : fieldV Try.prog 23 (.agg l) 0 = partC false 1 l 0 := fieldV_K Try.fld23_0 l
theorem Try.shape24 : shapeOf Try.prog 24 = some (true, 1) := by kernel_rfl
@[go_sem] theorem Try.load24 (H : Heap) (a : V) : readV Try.prog H 24 a = loadK (some (true, 1)) (obOf H a) a := readV_K Try.shape24 H a
@[go_sem] theorem Try.sz24 : szOf Try.prog 24 = some 1 := by kernel_rfl
@[go_sem] theorem Try.bytes24 : bytesV Try.prog 24 = some 24 := by kernel_rfl
@[go_sem] theorem Try.agg24 : isAggB Try.prog 24 = some true := by kernel_rfl
@[go_sem] theorem Try.zero24 : zeroC Try.prog 24 = some [.nils] := by kernel_rfl
theorem Try.zeroV24 : zeroV Try.prog 24 = some (.agg [.nils]) := by kernel_rfl
@[go_sem] theorem Try.bld24 (l : List (Nat × V)) : buildV Try.prog 24 l = (fillV (tblP [(0, 1)]) [.nils] l).map .agg := buildV_K (P := Try.prog) (t := 24) (tbl := [(0, 1)]) (z := [.nils]) (by kernel_rfl) (by kernel_rfl) l
theorem Try.fld24_0 : fldOf Try.prog 24 0 = some (0, false, 1) := by kernel_rfl
@[go_sem] theorem Try.fa24_0 (a : V) : fieldAddrV Try.prog 24 a 0 = fldK (some (0, false, 1)) a := fieldAddrV_K Try.fld24_0 a
@[go_sem] theorem Try.fv24_0 (l : List V) : fieldV Try.prog 24 (.agg l) 0 = partC false 1 l 0 := fieldV_K Try.fld24_0 l
theorem Try.shape25 : shapeOf Try.prog 25 = some (false, 1) := by kernel_rfl
@[go_sem] theorem Try.load25 (H : Heap) (a : V) : readV Try.prog H 25 a = loadK (some (false, 1)) (obOf H a) a := readV_K Try.shape25 H a
@[go_sem] theorem Try.sz25 : szOf Try.prog 25 = some 1 := by kernel_rfl
@[go_sem] theorem Try.bytes25 : bytesV Try.prog 25 = some 8 := by kernel_rfl
@[go_sem] theorem Try.agg25 : isAggB Try.prog 25 = some false := by kernel_rfl
@[go_sem] theorem Try.zero25 : zeroC Try.prog 25 = some [.nilf] := by kernel_rfl
theorem Try.nk25 : nilKind Try.prog 25 = 3 := by kernel_rfl
@[go_sem] theorem Try.eqn25 (a : V) : binV Try.prog .eql 25 a .nilf = (nilK 3 a).map .bool := (binV_nil _ _ Try.nk25 (by simp) a).1
@[go_sem] theorem Try.nen25 (a : V) : binV Try.prog .neq 25 a .nilf = (nilK 3 a).map fun r => .bool (!r) := (binV_nil _ _ Try.nk25 (by simp) a).2
theorem Try.shape26 : shapeOf Try.prog 26 = some (false, 1) := by kernel_rfl
@[go_sem] theorem Try.load26 (H : Heap) (a : V) : readV Try.prog H 26 a = loadK (some (false, 1)) (obOf H a) a := readV_K Try.shape26 H a
@[go_sem] theorem Try.sz26 : szOf Try.prog 26 = some 1 := by kernel_rfl
@[go_sem] theorem Try.bytes26 : bytesV Try.prog 26 = some 8 := by kernel_rfl
@[go_sem] theorem Try.agg26 : isAggB Try.prog 26 = some false := by kernel_rfl
@[go_sem] theorem Try.zero26 : zeroC Try.prog 26 = some [.nilf] := by kernel_rfl
theorem Try.nk26 : nilKind Try.prog 26 = 3 := by kernel_rfl
@[go_sem] theorem Try.eqn26 (a : V) : binV Try.prog .eql 26 a .nilf = (nilK 3 a).map .bool := (binV_nil _ _ Try.nk26 (by simp) a).1
@[go_sem] theorem Try.nen26 (a : V) : binV Try.prog .neq 26 a .nilf = (nilK 3 a).map fun r => .bool (!r) := (binV_nil _ _ Try.nk26 (by simp) a).2
theorem Try.shape27 : shapeOf Try.prog 27 = some (false, 1) := by kernel_rfl
@[go_sem] theorem Try.load27 (H : Heap) (a : V) : readV Try.prog H 27 a = loadK (some (false, 1)) (obOf H a) a := readV_K Try.shape27 H a
@[go_sem] theorem Try.sz27 : szOf Try.prog 27 = some 1 := by kernel_rfl
@[go_sem] theorem Try.bytes27 : bytesV Try.prog 27 = some 24 := by kernel_rfl
@[go_sem] theorem Try.agg27 : isAggB Try.prog 27 = some false := by kernel_rfl
@[go_sem] theorem Try.zero27 : zeroC Try.prog 27 = some [.nils] := by kernel_rfl
theorem Try.nk27 : nilKind Try.prog 27 = 2 := by kernel_rfl
@[go_sem] theorem Try.eqn27 (a : V) : binV Try.prog .eql 27 a .nils = (nilK 2 a).map .bool := (binV_nil _ _ Try.nk27 (by simp) a).1
@[go_sem] theorem Try.nen27 (a : V) : binV Try.prog .neq 27 a .nils = (nilK 2 a).map fun r => .bool (!r) := (binV_nil _ _ Try.nk27 (by simp) a).2
theorem Try.elem27 : elemOf Try.prog 27 = some 3 := by kernel_rfl
@[go_sem] theorem Try.idx27 (a i : V) : indexAddrV Try.prog 27 a i = idxK (some 3) a i := indexAddrV_K Try.elem27 a i
@[go_sem] theorem Try.len27 (a : V) : lenV Try.prog 27 a = lenK true a := lenV_slice Try.elem27 a
@[go_sem] theorem Try.sl27 (a : V) (lo hi : Option V) : sliceV Try.prog 27 a lo hi none = slK 3 a lo hi := sliceV_K Try.elem27 a lo hi
@[go_sem] theorem Try.bs27 (n : Nat) (l : List (Nat × V)) : bsCells Try.prog 27 n l = bsK 3 [.int .u8 0, .int .i64 0, .nils] n l := bsCells_K (P := Try.prog) (t := 27) (e := 56) (m := 3) (z := [.int .u8 0, .int .i64 0, .nils]) (by kernel_rfl) (by kernel_rfl) (by kernel_rfl) rfl n l
@[go_sem] theorem Try.ms27 (a b : V) : msCells Try.prog 27 a b = msK 3 40 [.int .u8 0, .int .i64 0, .nils] a b := msCells_K (P := Try.prog) (t := 27) (e := 56) (E := 3) (bytes := 40) (z := [.int .u8 0, .int .i64 0, .nils]) (by kernel_rfl) (by kernel_rfl) (by kernel_rfl) (by kernel_rfl) rfl a b
theorem Try.app27 : appOf Try.prog [27, 27] = some (3, 40) := by kernel_rfl
@[go_sem] theorem Try.appc27 (E : Ent) (ops : Array Oper) (Q : AS → Prop) (rest : List Oper) (e : Nat) (τ : Nat → V) (H : Heap) (a b : V) : appC Try.prog E ops Q rest e τ H [27, 27] a b = appE Try.prog E ops Q rest e τ H 3 40 a (srcCells H 3 b) (obS H a) := appC_E ops Try.app27 e a b
theorem Try.shape28 : shapeOf Try.prog 28 = some (false, 1) := by kernel_rfl
@[go_sem] theorem Try.load28 (H : Heap) (a : V) : readV Try.prog H 28 a = loadK (some (false, 1)) (obOf H a) a := readV_K Try.shape28 H a
@[go_sem] theorem Try.sz28 : szOf Try.prog 28 = some 1 := by kernel_rfl
@[go_sem] theorem Try.bytes28 : bytesV Try.prog 28 = some 8 := by kernel_rfl
@[go_sem] theorem Try.agg28 : isAggB Try.prog 28 = some false := by kernel_rfl
@[go_sem] theorem Try.zero28 : zeroC Try.prog 28 = some [.nilf] := by kernel_rfl
theorem Try.nk28 : nilKind Try.prog 28 = 3 := by kernel_rfl
@[go_sem] theorem Try.eqn28 (a : V) : binV Try.prog .eql 28 a .nilf = (nilK 3 a).map .bool := (binV_nil _ _ Try.nk28 (by simp) a).1
@[go_sem] theorem Try.nen28 (a : V) : binV Try.prog .neq 28 a .nilf = (nilK 3 a).map fun r => .bool (!r) := (binV_nil _ _ Try.nk28 (by simp) a).2
theorem Try.shape29 : shapeOf Try.prog 29 = some (false, 1) := by kernel_rfl
@[go_sem] theorem Try.load29 (H : Heap) (a : V) : readV Try.prog H 29 a = loadK (some (false, 1)) (obOf H a) a := readV_K Try.shape29 H a
@[go_sem] theorem Try.sz29 : szOf Try.prog 29 = some 1 := by kernel_rfl
@[go_sem] theorem Try.bytes29 : bytesV Try.prog 29 = some 24 := by kernel_rfl
@[go_sem] theorem Try.agg29 : isAggB Try.prog 29 = some false := by kernel_rfl
@[go_sem] theorem Try.zero29 : zeroC Try.prog 29 = some [.nils] := by kernel_rfl
theorem Try.nk29 : nilKind Try.prog 29 = 2 := by kernel_rfl
@[go_sem] theorem Try.eqn29 (a : V) : binV Try.prog .eql 29 a .nils = (nilK 2 a).map .bool := (binV_nil _ _ Try.nk29 (by simp) a).1
@[go_sem] theorem Try.nen29 (a : V) : binV Try.prog .neq 29 a .nils = (nilK 2 a).map fun r => .bool (!r) := (binV_nil _ _ Try.nk29 (by simp) a).2
theorem Try.elem29 : elemOf Try.prog 29 = some 3 := by kernel_rfl
@[go_sem] theorem Try.idx29 (a i : V) : indexAddrV Try.prog 29 a i = idxK (some 3) a i := indexAddrV_K Try.elem29 a i
@[go_sem] theorem Try.len29 (a : V) : lenV Try.prog 29 a = lenK true a := lenV_slice Try.elem29 a
@[go_sem] theorem Try.sl29 (a : V) (lo hi : Option V) : sliceV Try.prog 29 a lo hi none = slK 3 a lo hi := sliceV_K Try.elem29 a lo hi
@[go_sem] theorem Try.bs29 (n : Nat) (l : List (Nat × V)) : bsCells Try.prog 29 n l = bsK 3 [.int .u8 0, .int .i64 0, .nils] n l := bsCells_K (P := Try.prog) (t := 29) (e := 31) (m := 3) (z := [.int .u8 0, .int .i64 0, .nils]) (by kernel_rfl) (by kernel_rfl) (by kernel_rfl) rfl n l
@[go_sem] theorem Try.ms29 (a b : V) : msCells Try.prog 29 a b = msK 3 40 [.int .u8 0, .int .i64 0, .nils] a b := msCells_K (P := Try.prog) (t := 29) (e := 31) (E := 3) (bytes := 40) (z := [.int .u8 0, .int .i64 0, .nils]) (by kernel_rfl) (by kernel_rfl) (by kernel_rfl) (by kernel_rfl) rfl a b
theorem Try.app29 : appOf Try.prog [29, 29] = some (3, 40) := by kernel_rfl
@[go_sem] theorem Try.appc29 (E : Ent) (ops : Array Oper) (Q : AS → Prop) (rest : List Oper) (e : Nat) (τ : Nat → V) (H : Heap) (a b : V) : appC Try.prog E ops Q rest e τ H [29, 29] a b = appE Try.prog E ops Q rest e τ H 3 40 a (srcCells H 3 b) (obS H a) := appC_E ops Try.app29 e a b
theorem Try.shape30 : shapeOf Try.prog 30 = some (true, 3) := by kernel_rfl
@[go_sem] theorem Try.load30 (H : Heap) (a : V) : readV Try.prog H 30 a = loadK (some (true, 3)) (obOf H a) a := readV_K Try.shape30 H a
@[go_sem] theorem Try.sz30 : szOf Try.prog 30 = some 3 := by kernel_rfl
@[go_sem] theorem Try.bytes30 : bytesV Try.prog 30 = some 40 := by kernel_rfl
@[go_sem] theorem Try.agg30 : isAggB Try.prog 30 = some true := by kernel_rfl
@[go_sem] theorem Try.zero30 : zeroC Try.prog 30 = some [.int .u8 0, .int .i64 0, .nils] := by kernel_rfl
theorem Try.zeroV30 : zeroV Try.prog 30 = some (.agg [.int .u8 0, .int .i64 0, .nils]) := by kernel_rfl
@[go_sem] theorem Try.bld30 (l : List (Nat × V)) : buildV Try.prog 30 l = (fillV (tblP [(0, 1), (1, 1), (2, 1)]) [.int .u8 0, .int .i64 0, .nils] l).map .agg := buildV_K (P := Try.prog) (t := 30) (tbl := [(0, 1), (1, 1), (2, 1)]) (z := [.int .u8 0, .int .i64 0, .nils]) (by kernel_rfl) (by kernel_rfl) l
theorem Try.fld30_0 : fldOf Try.prog 30 0 = some (0, false, 1) := by kernel_rfl
@[go_sem] theorem Try.fa30_0 (a : V) : fieldAddrV Try.prog 30 a 0 = fldK (some (0, false, 1)) a := fieldAddrV_K Try.fld30_0 a
@[go_sem] theorem Try.fv30_0 (l : List V) : fieldV Try.prog 30 (.agg l) 0 = partC false 1 l 0 := fieldV_K Try.fld30_0 l
theorem Try.fld30_1 : fldOf Try.prog 30 1 = some (1, false, 1) := by kernel_rfl
@[go_sem] theorem Try.fa30_1 (a : V) : fieldAddrV Try.prog 30 a 1 = fldK (some (1, false, 1)) a := fieldAddrV_K Try.fld30_1 a
@[go_sem] theorem Try.fv30_1 (l : List V) : fieldV Try.prog 30 (.agg l) 1 = partC false 1 l 1 := fieldV_K Try.fld30_1 l
theorem Try.fld30_2 : fldOf Try.prog 30 2 = some (2, false, 1) := by kernel_rfl
@[go_sem] theorem Try.fa30_2 (a : V) : fieldAddrV Try.prog 30 a 2 = fldK (some (2, false, 1)) a := fieldAddrV_K Try.fld30_2 a
@[go_sem] theorem Try.fv30_2 (l : List V) : fieldV Try.prog 30 (.agg l) 2 = partC false 1 l 2 := fieldV_K Try.fld30_2 l
theorem Try.shape31 : shapeOf Try.prog 31 = some (true, 3) := by kernel_rfl
@[go_sem] theorem Try.load31 (H : Heap) (a : V) : readV Try.prog H 31 a = loadK (some (true, 3)) (obOf H a) a := readV_K Try.shape31 H a
@[go_sem] theorem Try.sz31 : szOf Try.prog 31 = some 3 := by kernel_rfl
@[go_sem] theorem Try.bytes31 : bytesV Try.prog 31 = some 40 := by kernel_rfl
@[go_sem] theorem Try.agg31 : isAggB Try.prog 31 = some true := by kernel_rfl
@[go_sem] theorem Try.zero31 : zeroC Try.prog 31 = some [.int .u8 0, .int .i64 0, .nils] := by kernel_rfl
theorem Try.zeroV31 : zeroV Try.prog 31 = some (.agg [.int .u8 0, .int .i64 0, .nils]) := by kernel_rfl
@[go_sem] theorem Try.bld31 (l : List (Nat × V)) : buildV Try.prog 31 l = (fillV (tblP [(0, 1), (1, 1), (2, 1)]) [.int .u8 0, .int .i64 0, .nils] l).map .agg := buildV_K (P := Try.prog) (t := 31) (tbl := [(0, 1), (1, 1), (2, 1)]) (z := [.int .u8 0, .int .i64 0, .nils]) (by kernel_rfl) (by kernel_rfl) l
theorem Try.fld31_0 : fldOf Try.prog 31 0 = some (0, false, 1) := by kernel_rfl
@[go_sem] theorem Try.fa31_0 (a : V) : fieldAddrV Try.prog 31 a 0 = fldK (some (0, false, 1)) a := fieldAddrV_K Try.fld31_0 a
@[go_sem] theorem Try.fv31_0 (l : List V) : fieldV Try.prog 31 (.agg l) 0 = partC false 1 l 0 := fieldV_K Try.fld31_0 l
theorem Try.fld31_1 : fldOf Try.prog 31 1 = some (1, false, 1) := by kernel_rfl
@[go_sem] theorem Try.fa31_1 (a : V) : fieldAddrV Try.prog 31 a 1 = fldK (some (1, false, 1)) a := fieldAddrV_K Try.fld31_1 a
@[go_sem] theorem Try.fv31_1 (l : List V) : fieldV Try.prog 31 (.agg l) 1 = partC false 1 l 1 := fieldV_K Try.fld31_1 l
theorem Try.fld31_2 : fldOf Try.prog 31 2 = some (2, false, 1) := by kernel_rfl
@[go_sem] theorem Try.fa31_2 (a : V) : fieldAddrV Try.prog 31 a 2 = fldK (some (2, false, 1)) a := fieldAddrV_K Try.fld31_2 a
@[go_sem] theorem Try.fv31_2 (l : List V) : fieldV Try.prog 31 (.agg l) 2 = partC false 1 l 2 := fieldV_K Try.fld31_2 l
theorem Try.shape33 : shapeOf Try.prog 33 = some (false, 1) := by kernel_rfl
@[go_sem] theorem Try.load33 (H : Heap) (a : V) : readV Try.prog H 33 a = loadK (some (false, 1)) (obOf H a) a := readV_K Try.shape33 H a
@[go_sem] theorem Try.sz33 : szOf Try.prog 33 = some 1 := by kernel_rfl
@[go_sem] theorem Try.bytes33 : bytesV Try.prog 33 = some 8 := by kernel_rfl
@[go_sem] theorem Try.agg33 : isAggB Try.prog 33 = some false := by kernel_rfl
@[go_sem] theorem Try.zero33 : zeroC Try.prog 33 = some [.nilf] := by kernel_rfl
theorem Try.nk33 : nilKind Try.prog 33 = 3 := by kernel_rfl
@[go_sem] theorem Try.eqn33 (a : V) : binV Try.prog .eql 33 a .nilf = (nilK 3 a).map .bool := (binV_nil _ _ Try.nk33 (by simp) a).1
@[go_sem] theorem Try.nen33 (a : V) : binV Try.prog .neq 33 a .nilf = (nilK 3 a).map fun r => .bool (!r) := (binV_nil _ _ Try.nk33 (by simp) a).2
theorem Try.shape34 : shapeOf Try.prog 34 = some (false, 1) := by kernel_rfl
@[go_sem] theorem Try.load34 (H : Heap) (a : V) : readV Try.prog H 34 a = loadK (some (false, 1)) (obOf H a) a := readV_K Try.shape34 H a
@[go_sem] theorem Try.sz34 : szOf Try.prog 34 = some 1 := by kernel_rfl
@[go_sem] theorem Try.bytes34 : bytesV Try.prog 34 = some 24 := by kernel_rfl
@[go_sem] theorem Try.agg34 : isAggB Try.prog 34 = some false := by kernel_rfl
@[go_sem] theorem Try.zero34 : zeroC Try.prog 34 = some [.nils] := by kernel_rfl
theorem Try.nk34 : nilKind Try.prog 34 = 2 := by kernel_rfl
@[go_sem] theorem Try.eqn34 (a : V) : binV Try.prog .eql 34 a .nils = (nilK 2 a).map .bool := (binV_nil _ _ Try.nk34 (by simp) a).1
@[go_sem] theorem Try.nen34 (a : V) : binV Try.prog .neq 34 a .nils = (nilK 2 a).map fun r => .bool (!r) := (binV_nil _ _ Try.nk34 (by simp) a).2
theorem Try.elem34 : elemOf Try.prog 34 = some 1 := by kernel_rfl
@[go_sem] theorem Try.idx34 (a i : V) : indexAddrV Try.prog 34 a i = idxK (some 1) a i := indexAddrV_K Try.elem34 a i
@[go_sem] theorem Try.len34 (a : V) : lenV Try.prog 34 a = lenK true a := lenV_slice Try.elem34 a
@[go_sem] theorem Try.sl34 (a : V) (lo hi : Option V) : sliceV Try.prog 34 a lo hi none = slK 1 a lo hi := sliceV_K Try.elem34 a lo hi
@[go_sem] theorem Try.bs34 (n : Nat) (l : List (Nat × V)) : bsCells Try.prog 34 n l = bsK 1 [.int .i64 0] n l := bsCells_K (P := Try.prog) (t := 34) (e := 3) (m := 1) (z := [.int .i64 0]) (by kernel_rfl) (by kernel_rfl) (by kernel_rfl) rfl n l
@[go_sem] theorem Try.ms34 (a b : V) : msCells Try.prog 34 a b = msK 1 8 [.int .i64 0] a b := msCells_K (P := Try.prog) (t := 34) (e := 3) (E := 1) (bytes := 8) (z := [.int .i64 0]) (by kernel_rfl) (by kernel_rfl) (by kernel_rfl) (by kernel_rfl) rfl a b
theorem Try.app34 : appOf Try.prog [34, 34] = some (1, 8) := by kernel_rfl
@[go_sem] theorem Try.appc34 (E : Ent) (ops : Array Oper) (Q : AS → Prop) (rest : List Oper) (e : Nat) (τ : Nat → V) (H : Heap) (a b : V) : appC Try.prog E ops Q rest e τ H [34, 34] a b = appE Try.prog E ops Q rest e τ H 1 8 a (srcCells H 1 b) (obS H a) := appC_E ops Try.app34 e a b
theorem Try.shape35 : shapeOf Try.prog 35 = some (false, 1) := by kernel_rfl
@[go_sem] theorem Try.load35 (H : Heap) (a : V) : readV Try.prog H 35 a = loadK (some (false, 1)) (obOf H a) a := readV_K Try.shape35 H a
@[go_sem] theorem Try.sz35 : szOf Try.prog 35 = some 1 := by kernel_rfl
@[go_sem] theorem Try.bytes35 : bytesV Try.prog 35 = some 8 := by kernel_rfl
@[go_sem] theorem Try.agg35 : isAggB Try.prog 35 = some false := by kernel_rfl
@[go_sem] theorem Try.zero35 : zeroC Try.prog 35 = some [.nilf] := by kernel_rfl
theorem Try.nk35 : nilKind Try.prog 35 = 3 := by kernel_rfl
@[go_sem] theorem Try.eqn35 (a : V) : binV Try.prog .eql 35 a .nilf = (nilK 3 a).map .bool := (binV_nil _ _ Try.nk35 (by simp) a).1
@[go_sem] theorem Try.nen35 (a : V) : binV Try.prog .neq 35 a .nilf = (nilK 3 a).map fun r => .bool (!r) := (binV_nil _ _ Try.nk35 (by simp) a).2
theorem Try.shape36 : shapeOf Try.prog 36 = some (false, 1) := by kernel_rfl
@[go_sem] theorem Try.load36 (H : Heap) (a : V) : readV Try.prog H 36 a = loadK (some (false, 1)) (obOf H a) a := readV_K Try.shape36 H a
@[go_sem] theorem Try.sz36 : szOf Try.prog 36 = some 1 := by kernel_rfl
@[go_sem] theorem Try.bytes36 : bytesV Try.prog 36 = some 8 := by kernel_rfl
@[go_sem] theorem Try.agg36 : isAggB Try.prog 36 = some false := by kernel_rfl
@[go_sem] theorem Try.zero36 : zeroC Try.prog 36 = some [.nilf] := by kernel_rfl
theorem Try.nk36 : nilKind Try.prog 36 = 3 := by kernel_rfl
@[go_sem] theorem Try.eqn36 (a : V) : binV Try.prog .eql 36 a .nilf = (nilK 3 a).map .bool := (binV_nil _ _ Try.nk36 (by simp) a).1
@[go_sem] theorem Try.nen36 (a : V) : binV Try.prog .neq 36 a .nilf = (nilK 3 a).map fun r => .bool (!r) := (binV_nil _ _ Try.nk36 (by simp) a).2
theorem Try.shape37 : shapeOf Try.prog 37 = some (false, 1) := by kernel_rfl
@[go_sem] theorem Try.load37 (H : Heap) (a : V) : readV Try.prog H 37 a = loadK (some (false, 1)) (obOf H a) a := readV_K Try.shape37 H a
@[go_sem] theorem Try.sz37 : szOf Try.prog 37 = some 1 := by kernel_rfl
@[go_sem] theorem Try.bytes37 : bytesV Try.prog 37 = some 8 := by kernel_rfl
@[go_sem] theorem Try.agg37 : isAggB Try.prog 37 = some false := by kernel_rfl
@[go_sem] theorem Try.zero37 : zeroC Try.prog 37 = some [.nilf] := by kernel_rfl
theorem Try.nk37 : nilKind Try.prog 37 = 3 := by kernel_rfl
@[go_sem] theorem Try.eqn37 (a : V) : binV Try.prog .eql 37 a .nilf = (nilK 3 a).map .bool := (binV_nil _ _ Try.nk37 (by simp) a).1
@[go_sem] theorem Try.nen37 (a : V) : binV Try.prog .neq 37 a .nilf = (nilK 3 a).map fun r => .bool (!r) := (binV_nil _ _ Try.nk37 (by simp) a).2
theorem Try.shape38 : shapeOf Try.prog 38 = some (false, 1) := by kernel_rfl
@[go_sem] theorem Try.load38 (H : Heap) (a : V) : readV Try.prog H 38 a = loadK (some (false, 1)) (obOf H a) a := readV_K Try.shape38 H a
@[go_sem] theorem Try.sz38 : szOf Try.prog 38 = some 1 := by kernel_rfl
@[go_sem] theorem Try.bytes38 : bytesV Try.prog 38 = some 8 := by kernel_rfl
@[go_sem] theorem Try.agg38 : isAggB Try.prog 38 = some false := by kernel_rfl
@[go_sem] theorem Try.zero38 : zeroC Try.prog 38 = some [.nilf] := by kernel_rfl
theorem Try.nk38 : nilKind Try.prog 38 = 3 := by kernel_rfl
@[go_sem] theorem Try.eqn38 (a : V) : binV Try.prog .eql 38 a .nilf = (nilK 3 a).map .bool := (binV_nil _ _ Try.nk38 (by simp) a).1
@[go_sem] theorem Try.nen38 (a : V) : binV Try.prog .neq 38 a .nilf = (nilK 3 a).map fun r => .bool (!r) := (binV_nil _ _ Try.nk38 (by simp) a).2
theorem Try.shape39 : shapeOf Try.prog 39 = some (false, 1) := by kernel_rfl
@[go_sem] theorem Try.load39 (H : Heap) (a : V) : readV Try.prog H 39 a = loadK (some (false, 1)) (obOf H a) a := readV_K Try.shape39 H a
@[go_sem] theorem Try.sz39 : szOf Try.prog 39 = some 1 := by kernel_rfl
@[go_sem] theorem Try.bytes39 : bytesV Try.prog 39 = some 8 := by kernel_rfl
@[go_sem] theorem Try.agg39 : isAggB Try.prog 39 = some false := by kernel_rfl
@[go_sem] theorem Try.zero39 : zeroC Try.prog 39 = some [.nilf] := by kernel_rfl
theorem Try.nk39 : nilKind Try.prog 39 = 3 := by kernel_rfl
@[go_sem] theorem Try.eqn39 (a : V) : binV Try.prog .eql 39 a .nilf = (nilK 3 a).map .bool := (binV_nil _ _ Try.nk39 (by simp) a).1
@[go_sem] theorem Try.nen39 (a : V) : binV Try.prog .neq 39 a .nilf = (nilK 3 a).map fun r => .bool (!r) := (binV_nil _ _ Try.nk39 (by simp) a).2
theorem Try.shape40 : shapeOf Try.prog 40 = some (false, 1) := by kernel_rfl
@[go_sem] theorem Try.load40 (H : Heap) (a : V) : readV Try.prog H 40 a = loadK (some (false, 1)) (obOf H a) a := readV_K Try.shape40 H a
@[go_sem] theorem Try.sz40 : szOf Try.prog 40 = some 1 := by kernel_rfl
@[go_sem] theorem Try.bytes40 : bytesV Try.prog 40 = some 8 := by kernel_rfl
@[go_sem] theorem Try.agg40 : isAggB Try.prog 40 = some false := by kernel_rfl
@[go_sem] theorem Try.zero40 : zeroC Try.prog 40 = some [.nilf] := by kernel_rfl
theorem Try.nk40 : nilKind Try.prog 40 = 3 := by kernel_rfl
@[go_sem] theorem Try.eqn40 (a : V) : binV Try.prog .eql 40 a .nilf = (nilK 3 a).map .bool := (binV_nil _ _ Try.nk40 (by simp) a).1
@[go_sem] theorem Try.nen40 (a : V) : binV Try.prog .neq 40 a .nilf = (nilK 3 a).map fun r => .bool (!r) := (binV_nil _ _ Try.nk40 (by simp) a).2
theorem Try.shape41 : shapeOf Try.prog 41 = some (false, 1) := by kernel_rfl
@[go_sem] theorem Try.load41 (H : Heap) (a : V) : readV Try.prog H 41 a = loadK (some (false, 1)) (obOf H a) a := readV_K Try.shape41 H a
@[go_sem] theorem Try.sz41 : szOf Try.prog 41 = some 1 := by kernel_rfl
@[go_sem] theorem Try.bytes41 : bytesV Try.prog 41 = some 8 := by kernel_rfl
@[go_sem] theorem Try.agg41 : isAggB Try.prog 41 = some false := by kernel_rfl
@[go_sem] theorem Try.zero41 : zeroC Try.prog 41 = some [.nilf] := by kernel_rfl
theorem Try.nk41 : nilKind Try.prog 41 = 3 := by kernel_rfl
@[go_sem] theorem Try.eqn41 (a : V) : binV Try.prog .eql 41 a .nilf = (nilK 3 a).map .bool := (binV_nil _ _ Try.nk41 (by simp) a).1
@[go_sem] theorem Try.nen41 (a : V) : binV Try.prog .neq 41 a .nilf = (nilK 3 a).map fun r => .bool (!r) := (binV_nil _ _ Try.nk41 (by simp) a).2
theorem Try.shape42 : shapeOf Try.prog 42 = some (true, 3) := by kernel_rfl
@[go_sem] theorem Try.load42 (H : Heap) (a : V) : readV Try.prog H 42 a = loadK (some (true, 3)) (obOf H a) a := readV_K Try.shape42 H a
@[go_sem] theorem Try.sz42 : szOf Try.prog 42 = some 3 := by kernel_rfl
@[go_sem] theorem Try.bytes42 : bytesV Try.prog 42 = some 40 := by kernel_rfl
@[go_sem] theorem Try.agg42 : isAggB Try.prog 42 = some true := by kernel_rfl
@[go_sem] theorem Try.zero42 : zeroC Try.prog 42 = some [.int .u8 0, .int .i64 0, .nils] := by kernel_rfl
theorem Try.zeroV42 : zeroV Try.prog 42 = some (.agg [.int .u8 0, .int .i64 0, .nils]) := by kernel_rfl
@[go_sem] theorem Try.bld42 (l : List (Nat × V)) : buildV Try.prog 42 l = (fillV (tblP [(0, 1), (1, 1), (2, 1)]) [.int .u8 0, .int .i64 0, .nils] l).map .agg := buildV_K (P := Try.prog) (t := 42) (tbl := [(0, 1), (1, 1), (2, 1)]) (z := [.int .u8 0, .int .i64 0, .nils]) (by kernel_rfl) (by kernel_rfl) l
theorem Try.fld42_0 : fldOf Try.prog 42 0 = some (0, false, 1) := by kernel_rfl
@[go_sem] theorem Try.fa42_0 (a : V) : fieldAddrV Try.prog 42 a 0 = fldK (some (0, false, 1)) a := fieldAddrV_K Try.fld42_0 a
@[go_sem] theorem Try.fv42_0 (l : List V) : fieldV Try.prog 42 (.agg l) 0 = partC false 1 l 0 := fieldV_K Try.fld42_0 l
theorem Try.fld42_1 : fldOf Try.prog 42 1 = some (1, false, 1) := by kernel_rfl
@[go_sem] theorem Try.fa42_1 (a : V) : fieldAddrV Try.prog 42 a 1 = fldK (some (1, false, 1)) a := fieldAddrV_K Try.fld42_1 a
@[go_sem] theorem Try.fv42_1 (l : List V) : fieldV Try.prog 42 (.agg l) 1 = partC false 1 l 1 := fieldV_K Try.fld42_1 l
theorem Try.fld42_2 : fldOf Try.prog 42 2 = some (2, false, 1) := by kernel_rfl
@[go_sem] theorem Try.fa42_2 (a : V) : fieldAddrV Try.prog 42 a 2 = fldK (some (2, false, 1)) a := fieldAddrV_K Try.fld42_2 a
@[go_sem] theorem Try.fv42_2 (l : List V) : fieldV Try.prog 42 (.agg l) 2 = partC false 1 l 2 := fieldV_K Try.fld42_2 l
theorem Try.shape43 : shapeOf Try.prog 43 = some (true, 3) := by kernel_rfl
@[go_sem] theorem Try.load43 (H : Heap) (a : V) : readV Try.prog H 43 a = loadK (some (true, 3)) (obOf H a) a := readV_K Try.shape43 H a
@[go_sem] theorem Try.sz43 : szOf Try.prog 43 = some 3 := by kernel_rfl
@[go_sem] theorem Try.bytes43 : bytesV Try.prog 43 = some 40 := by kernel_rfl
@[go_sem] theorem Try.agg43 : isAggB Try.prog 43 = some true := by kernel_rfl
@[go_sem] theorem Try.zero43 : zeroC Try.prog 43 = some [.int .u8 0, .int .i64 0, .nils] := by kernel_rfl
theorem Try.zeroV43 : zeroV Try.prog 43 = some (.agg [.int .u8 0, .int .i64 0, .nils]) := by kernel_rfl
@[go_sem] theorem Try.bld43 (l : List (Nat × V)) : buildV Try.prog 43 l = (fillV (tblP [(0, 1), (1, 1), (2, 1)]) [.int .u8 0, .int .i64 0, .nils] l).map .agg := buildV_K (P := Try.prog) (t := 43) (tbl := [(0, 1), (1, 1), (2, 1)]) (z := [.int .u8 0, .int .i64 0, .nils]) (by kernel_rfl) (by kernel_rfl) l
theorem Try.fld43_0 : fldOf Try.prog 43 0 = some (0, false, 1) := by kernel_rfl
@[go_sem] theorem Try.fa43_0 (a : V) : fieldAddrV Try.prog 43 a 0 = fldK (some (0, false, 1)) a := fieldAddrV_K Try.fld43_0 a
@[go_sem] theorem Try.fv43_0 (l : List V) : fieldV Try.prog 43 (.agg l) 0 = partC false 1 l 0 := fieldV_K Try.fld43_0 l
theorem Try.fld43_1 : fldOf Try.prog 43 1 = some (1, false, 1) := by kernel_rfl
@[go_sem] theorem Try.fa43_1 (a : V) : fieldAddrV Try.prog 43 a 1 = fldK (some (1, false, 1)) a := fieldAddrV_K Try.fld43_1 a
@[go_sem] theorem Try.fv43_1 (l : List V) : fieldV Try.prog 43 (.agg l) 1 = partC false 1 l 1 := fieldV_K Try.fld43_1 l
theorem Try.fld43_2 : fldOf Try.prog 43 2 = some (2, false, 1) := by kernel_rfl
@[go_sem] theorem Try.fa43_2 (a : V) : fieldAddrV Try.prog 43 a 2 = fldK (some (2, false, 1)) a := fieldAddrV_K Try.fld43_2 a
@[go_sem] theorem Try.fv43_2 (l : List V) : fieldV Try.prog 43 (.agg l) 2 = partC false 1 l 2 := fieldV_K Try.fld43_2 l
theorem Try.shape44 : shapeOf Try.prog 44 = some (false, 1) := by kernel_rfl
@[go_sem] theorem Try.load44 (H : Heap) (a : V) : readV Try.prog H 44 a = loadK (some (false, 1)) (obOf H a) a := readV_K Try.shape44 H a
@[go_sem] theorem Try.sz44 : szOf Try.prog 44 = some 1 := by kernel_rfl
@[go_sem] theorem Try.bytes44 : bytesV Try.prog 44 = some 8 := by kernel_rfl
@[go_sem] theorem Try.agg44 : isAggB Try.prog 44 = some false := by kernel_rfl
@[go_sem] theorem Try.zero44 : zeroC Try.prog 44 = some [.nilf] := by kernel_rfl
theorem Try.nk44 : nilKind Try.prog 44 = 3 := by kernel_rfl
@[go_sem] theorem Try.eqn44 (a : V) : binV Try.prog .eql 44 a .nilf = (nilK 3 a).map .bool := (binV_nil _ _ Try.nk44 (by simp) a).1
@[go_sem] theorem Try.nen44 (a : V) : binV Try.prog .neq 44 a .nilf = (nilK 3 a).map fun r => .bool (!r) := (binV_nil _ _ Try.nk44 (by simp) a).2
theorem Try.shape45 : shapeOf Try.prog 45 = some (false, 1) := by kernel_rfl
@[go_sem] theorem Try.load45 (H : Heap) (a : V) : readV Try.prog H 45 a = loadK (some (false, 1)) (obOf H a) a := readV_K Try.shape45 H a
@[go_sem] theorem Try.sz45 : szOf Try.prog 45 = some 1 := by kernel_rfl
@[go_sem] theorem Try.bytes45 : bytesV Try.prog 45 = some 8 := by kernel_rfl
@[go_sem] theorem Try.agg45 : isAggB Try.prog 45 = some false := by kernel_rfl
@[go_sem] theorem Try.zero45 : zeroC Try.prog 45 = some [.nilf] := by kernel_rfl
theorem Try.nk45 : nilKind Try.prog 45 = 3 := by kernel_rfl
@[go_sem] theorem Try.eqn45 (a : V) : binV Try.prog .eql 45 a .nilf = (nilK 3 a).map .bool := (binV_nil _ _ Try.nk45 (by simp) a).1
@[go_sem] theorem Try.nen45 (a : V) : binV Try.prog .neq 45 a .nilf = (nilK 3 a).map fun r => .bool (!r) := (binV_nil _ _ Try.nk45 (by simp) a).2
theorem Try.shape46 : shapeOf Try.prog 46 = some (false, 1) := by kernel_rfl
@[go_sem] theorem Try.load46 (H : Heap) (a : V) : readV Try.prog H 46 a = loadK (some (false, 1)) (obOf H a) a := readV_K Try.shape46 H a
@[go_sem] theorem Try.sz46 : szOf Try.prog 46 = some 1 := by kernel_rfl
@[go_sem] theorem Try.bytes46 : bytesV Try.prog 46 = some 8 := by kernel_rfl
@[go_sem] theorem Try.agg46 : isAggB Try.prog 46 = some false := by kernel_rfl
@[go_sem] theorem Try.zero46 : zeroC Try.prog 46 = some [.nilf] := by kernel_rfl
theorem Try.nk46 : nilKind Try.prog 46 = 3 := by kernel_rfl
@[go_sem] theorem Try.eqn46 (a : V) : binV Try.prog .eql 46 a .nilf = (nilK 3 a).map .bool := (binV_nil _ _ Try.nk46 (by simp) a).1
@[go_sem] theorem Try.nen46 (a : V) : binV Try.prog .neq 46 a .nilf = (nilK 3 a).map fun r => .bool (!r) := (binV_nil _ _ Try.nk46 (by simp) a).2
theorem Try.shape47 : shapeOf Try.prog 47 = some (false, 1) := by kernel_rfl
@[go_sem] theorem Try.load47 (H : Heap) (a : V) : readV Try.prog H 47 a = loadK (some (false, 1)) (obOf H a) a := readV_K Try.shape47 H a
@[go_sem] theorem Try.sz47 : szOf Try.prog 47 = some 1 := by kernel_rfl
@[go_sem] theorem Try.bytes47 : bytesV Try.prog 47 = some 24 := by kernel_rfl
@[go_sem] theorem Try.agg47 : isAggB Try.prog 47 = some false := by kernel_rfl
@[go_sem] theorem Try.zero47 : zeroC Try.prog 47 = some [.nils] := by kernel_rfl
theorem Try.nk47 : nilKind Try.prog 47 = 2 := by kernel_rfl
@[go_sem] theorem Try.eqn47 (a : V) : binV Try.prog .eql 47 a .nils = (nilK 2 a).map .bool := (binV_nil _ _ Try.nk47 (by simp) a).1
@[go_sem] theorem Try.nen47 (a : V) : binV Try.prog .neq 47 a .nils = (nilK 2 a).map fun r => .bool (!r) := (binV_nil _ _ Try.nk47 (by simp) a).2
theorem Try.elem47 : elemOf Try.prog 47 = some 1 := by kernel_rfl
@[go_sem] theorem Try.idx47 (a i : V) : indexAddrV Try.prog 47 a i = idxK (some 1) a i := indexAddrV_K Try.elem47 a i
@[go_sem] theorem Try.len47 (a : V) : lenV Try.prog 47 a = lenK true a := lenV_slice Try.elem47 a
@[go_sem] theorem Try.sl47 (a : V) (lo hi : Option V) : sliceV Try.prog 47 a lo hi none = slK 1 a lo hi := sliceV_K Try.elem47 a lo hi
@[go_sem] theorem Try.bs47 (n : Nat) (l : List (Nat × V)) : bsCells Try.prog 47 n l = bsK 1 [.nils] n l := bsCells_K (P := Try.prog) (t := 47) (e := 24) (m := 1) (z := [.nils]) (by kernel_rfl) (by kernel_rfl) (by kernel_rfl) rfl n l
@[go_sem] theorem Try.ms47 (a b : V) : msCells Try.prog 47 a b = msK 1 24 [.nils] a b := msCells_K (P := Try.prog) (t := 47) (e := 24) (E := 1) (bytes := 24) (z := [.nils]) (by kernel_rfl) (by kernel_rfl) (by kernel_rfl) (by kernel_rfl) rfl a b
theorem Try.app47 : appOf Try.prog [47, 47] = some (1, 24) := by kernel_rfl
@[go_sem] theorem Try.appc47 (E : Ent) (ops : Array Oper) (Q : AS → Prop) (rest : List Oper) (e : Nat) (τ : Nat → V) (H : Heap) (a b : V) : appC Try.prog E ops Q rest e τ H [47, 47] a b = appE Try.prog E ops Q rest e τ H 1 24 a (srcCells H 1 b) (obS H a) := appC_E ops Try.app47 e a b
theorem Try.shape48 : shapeOf Try.prog 48 = some (false, 1) := by kernel_rfl
@[go_sem] theorem Try.load48 (H : Heap) (a : V) : readV Try.prog H 48 a = loadK (some (false, 1)) (obOf H a) a := readV_K Try.shape48 H a
@[go_sem] theorem Try.sz48 : szOf Try.prog 48 = some 1 := by kernel_rfl
@[go_sem] theorem Try.bytes48 : bytesV Try.prog 48 = some 24 := by kernel_rfl
@[go_sem] theorem Try.agg48 : isAggB Try.prog 48 = some false := by kernel_rfl
@[go_sem] theorem Try.zero48 : zeroC Try.prog 48 = some [.nils] := by kernel_rfl
theorem Try.nk48 : nilKind Try.prog 48 = 2 := by kernel_rfl
@[go_sem] theorem Try.eqn48 (a : V) : binV Try.prog .eql 48 a .nils = (nilK 2 a).map .bool := (binV_nil _ _ Try.nk48 (by simp) a).1
@[go_sem] theorem Try.nen48 (a : V) : binV Try.prog .neq 48 a .nils = (nilK 2 a).map fun r => .bool (!r) := (binV_nil _ _ Try.nk48 (by simp) a).2
theorem Try.elem48 : elemOf Try.prog 48 = some 1 := by kernel_rfl
@[go_sem] theorem Try.idx48 (a i : V) : indexAddrV Try.prog 48 a i = idxK (some 1) a i := indexAddrV_K Try.elem48 a i
@[go_sem] theorem Try.len48 (a : V) : lenV Try.prog 48 a = lenK true a := lenV_slice Try.elem48 a
@[go_sem] theorem Try.sl48 (a : V) (lo hi : Option V) : sliceV Try.prog 48 a lo hi none = slK 1 a lo hi := sliceV_K Try.elem48 a lo hi
@[go_sem] theorem Try.bs48 (n : Nat) (l : List (Nat × V)) : bsCells Try.prog 48 n l = bsK 1 [.nils] n l := bsCells_K (P := Try.prog) (t := 48) (e := 27) (m := 1) (z := [.nils]) (by kernel_rfl) (by kernel_rfl) (by kernel_rfl) rfl n l
@[go_sem] theorem Try.ms48 (a b : V) : msCells Try.prog 48 a b = msK 1 24 [.nils] a b := msCells_K (P := Try.prog) (t := 48) (e := 27) (E := 1) (bytes := 24) (z := [.nils]) (by kernel_rfl) (by kernel_rfl) (by kernel_rfl) (by kernel_rfl) rfl a b
theorem Try.app48 : appOf Try.prog [48, 48] = some (1, 24) := by kernel_rfl
@[go_sem] theorem Try.appc48 (E : Ent) (ops : Array Oper) (Q : AS → Prop) (rest : List Oper) (e : Nat) (τ : Nat → V) (H : Heap) (a b : V) : appC Try.prog E ops Q rest e τ H [48, 48] a b = appE Try.prog E ops Q rest e τ H 1 24 a (srcCells H 1 b) (obS H a) := appC_E ops Try.app48 e a b
theorem Try.shape49 : shapeOf Try.prog 49 = some (false, 1) := by kernel_rfl
@[go_sem] theorem Try.load49 (H : Heap) (a : V) : readV Try.prog H 49 a = loadK (some (false, 1)) (obOf H a) a := readV_K Try.shape49 H a
@[go_sem] theorem Try.sz49 : szOf Try.prog 49 = some 1 := by kernel_rfl
@[go_sem] theorem Try.bytes49 : bytesV Try.prog 49 = some 8 := by kernel_rfl
@[go_sem] theorem Try.agg49 : isAggB Try.prog 49 = some false := by kernel_rfl
@[go_sem] theorem Try.zero49 : zeroC Try.prog 49 = some [.nilf] := by kernel_rfl
theorem Try.nk49 : nilKind Try.prog 49 = 3 := by kernel_rfl
@[go_sem] theorem Try.eqn49 (a : V) : binV Try.prog .eql 49 a .nilf = (nilK 3 a).map .bool := (binV_nil _ _ Try.nk49 (by simp) a).1
@[go_sem] theorem Try.nen49 (a : V) : binV Try.prog .neq 49 a .nilf = (nilK 3 a).map fun r => .bool (!r) := (binV_nil _ _ Try.nk49 (by simp) a).2
theorem Try.shape50 : shapeOf Try.prog 50 = some (false, 1) := by kernel_rfl
@[go_sem] theorem Try.load50 (H : Heap) (a : V) : readV Try.prog H 50 a = loadK (some (false, 1)) (obOf H a) a := readV_K Try.shape50 H a
@[go_sem] theorem Try.sz50 : szOf Try.prog 50 = some 1 := by kernel_rfl
@[go_sem] theorem Try.bytes50 : bytesV Try.prog 50 = some 8 := by kernel_rfl
@[go_sem] theorem Try.agg50 : isAggB Try.prog 50 = some false := by kernel_rfl
@[go_sem] theorem Try.zero50 : zeroC Try.prog 50 = some [.nilf] := by kernel_rfl
theorem Try.nk50 : nilKind Try.prog 50 = 3 := by kernel_rfl
@[go_sem] theorem Try.eqn50 (a : V) : binV Try.prog .eql 50 a .nilf = (nilK 3 a).map .bool := (binV_nil _ _ Try.nk50 (by simp) a).1
@[go_sem] theorem Try.nen50 (a : V) : binV Try.prog .neq 50 a .nilf = (nilK 3 a).map fun r => .bool (!r) := (binV_nil _ _ Try.nk50 (by simp) a).2
theorem Try.shape51 : shapeOf Try.prog 51 = some (false, 1) := by kernel_rfl
@[go_sem] theorem Try.load51 (H : Heap) (a : V) : readV Try.prog H 51 a = loadK (some (false, 1)) (obOf H a) a := readV_K Try.shape51 H a
@[go_sem] theorem Try.sz51 : szOf Try.prog 51 = some 1 := by kernel_rfl
@[go_sem] theorem Try.bytes51 : bytesV Try.prog 51 = some 8 := by kernel_rfl
@[go_sem] theorem Try.agg51 : isAggB Try.prog 51 = some false := by kernel_rfl
@[go_sem] theorem Try.zero51 : zeroC Try.prog 51 = some [.nilf] := by kernel_rfl
theorem Try.nk51 : nilKind Try.prog 51 = 3 := by kernel_rfl
@[go_sem] theorem Try.eqn51 (a : V) : binV Try.prog .eql 51 a .nilf = (nilK 3 a).map .bool := (binV_nil _ _ Try.nk51 (by simp) a).1
@[go_sem] theorem Try.nen51 (a : V) : binV Try.prog .neq 51 a .nilf = (nilK 3 a).map fun r => .bool (!r) := (binV_nil _ _ Try.nk51 (by simp) a).2
theorem Try.shape52 : shapeOf Try.prog 52 = some (false, 1) := by kernel_rfl
@[go_sem] theorem Try.load52 (H : Heap) (a : V) : readV Try.prog H 52 a = loadK (some (false, 1)) (obOf H a) a := readV_K Try.shape52 H a
@[go_sem] theorem Try.sz52 : szOf Try.prog 52 = some 1 := by kernel_rfl
@[go_sem] theorem Try.bytes52 : bytesV Try.prog 52 = some 8 := by kernel_rfl
@[go_sem] theorem Try.agg52 : isAggB Try.prog 52 = some false := by kernel_rfl
@[go_sem] theorem Try.zero52 : zeroC Try.prog 52 = some [.nilf] := by kernel_rfl
theorem Try.nk52 : nilKind Try.prog 52 = 3 := by kernel_rfl
@[go_sem] theorem Try.eqn52 (a : V) : binV Try.prog .eql 52 a .nilf = (nilK 3 a).map .bool := (binV_nil _ _ Try.nk52 (by simp) a).1
@[go_sem] theorem Try.nen52 (a : V) : binV Try.prog .neq 52 a .nilf = (nilK 3 a).map fun r => .bool (!r) := (binV_nil _ _ Try.nk52 (by simp) a).2
theorem Try.shape53 : shapeOf Try.prog 53 = some (false, 1) := by kernel_rfl
@[go_sem] theorem Try.load53 (H : Heap) (a : V) : readV Try.prog H 53 a = loadK (some (false, 1)) (obOf H a) a := readV_K Try.shape53 H a
@[go_sem] theorem Try.sz53 : szOf Try.prog 53 = some 1 := by kernel_rfl
@[go_sem] theorem Try.bytes53 : bytesV Try.prog 53 = some 8 := by kernel_rfl
@[go_sem] theorem Try.agg53 : isAggB Try.prog 53 = some false := by kernel_rfl
@[go_sem] theorem Try.zero53 : zeroC Try.prog 53 = some [.nilf] := by kernel_rfl
theorem Try.nk53 : nilKind Try.prog 53 = 3 := by kernel_rfl
@[go_sem] theorem Try.eqn53 (a : V) : binV Try.prog .eql 53 a .nilf = (nilK 3 a).map .bool := (binV_nil _ _ Try.nk53 (by simp) a).1
@[go_sem] theorem Try.nen53 (a : V) : binV Try.prog .neq 53 a .nilf = (nilK 3 a).map fun r => .bool (!r) := (binV_nil _ _ Try.nk53 (by simp) a).2
theorem Try.shape54 : shapeOf Try.prog 54 = some (false, 1) := by kernel_rfl
@[go_sem] theorem Try.load54 (H : Heap) (a : V) : readV Try.prog H 54 a = loadK (some (false, 1)) (obOf H a) a := readV_K Try.shape54 H a
@[go_sem] theorem Try.sz54 : szOf Try.prog 54 = some 1 := by kernel_rfl
@[go_sem] theorem Try.bytes54 : bytesV Try.prog 54 = some 8 := by kernel_rfl
@[go_sem] theorem Try.agg54 : isAggB Try.prog 54 = some false := by kernel_rfl
@[go_sem] theorem Try.zero54 : zeroC Try.prog 54 = some [.nilf] := by kernel_rfl
theorem Try.nk54 : nilKind Try.prog 54 = 3 := by kernel_rfl
@[go_sem] theorem Try.eqn54 (a : V) : binV Try.prog .eql 54 a .nilf = (nilK 3 a).map .bool := (binV_nil _ _ Try.nk54 (by simp) a).1
@[go_sem] theorem Try.nen54 (a : V) : binV Try.prog .neq 54 a .nilf = (nilK 3 a).map fun r => .bool (!r) := (binV_nil _ _ Try.nk54 (by simp) a).2
theorem Try.shape55 : shapeOf Try.prog 55 = some (false, 1) := by kernel_rfl
@[go_sem] theorem Try.load55 (H : Heap) (a : V) : readV Try.prog H 55 a = loadK (some (false, 1)) (obOf H a) a := readV_K Try.shape55 H a
@[go_sem] theorem Try.sz55 : szOf Try.prog 55 = some 1 := by kernel_rfl
@[go_sem] theorem Try.bytes55 : bytesV Try.prog 55 = some 8 := by kernel_rfl
@[go_sem] theorem Try.agg55 : isAggB Try.prog 55 = some false := by kernel_rfl
@[go_sem] theorem Try.zero55 : zeroC Try.prog 55 = some [.nilf] := by kernel_rfl
theorem Try.nk55 : nilKind Try.prog 55 = 3 := by kernel_rfl
@[go_sem] theorem Try.eqn55 (a : V) : binV Try.prog .eql 55 a .nilf = (nilK 3 a).map .bool := (binV_nil _ _ Try.nk55 (by simp) a).1
@[go_sem] theorem Try.nen55 (a : V) : binV Try.prog .neq 55 a .nilf = (nilK 3 a).map fun r => .bool (!r) := (binV_nil _ _ Try.nk55 (by simp) a).2
theorem Try.shape56 : shapeOf Try.prog 56 = some (true, 3) := by kernel_rfl
@[go_sem] theorem Try.load56 (H : Heap) (a : V) : readV Try.prog H 56 a = loadK (some (true, 3)) (obOf H a) a := readV_K Try.shape56 H a
@[go_sem] theorem Try.sz56 : szOf Try.prog 56 = some 3 := by kernel_rfl
@[go_sem] theorem Try.bytes56 : bytesV Try.prog 56 = some 40 := by kernel_rfl
@[go_sem] theorem Try.agg56 : isAggB Try.prog 56 = some true := by kernel_rfl
@[go_sem] theorem Try.zero56 : zeroC Try.prog 56 = some [.int .u8 0, .int .i64 0, .nils] := by kernel_rfl
theorem Try.zeroV56 : zeroV Try.prog 56 = some (.agg [.int .u8 0, .int .i64 0, .nils]) := by kernel_rfl
@[go_sem] theorem Try.bld56 (l : List (Nat × V)) : buildV Try.prog 56 l = (fillV (tblP [(0, 1), (1, 1), (2, 1)]) [.int .u8 0, .int .i64 0, .nils] l).map .agg := buildV_K (P := Try.prog) (t := 56) (tbl := [(0, 1), (1, 1), (2, 1)]) (z := [.int .u8 0, .int .i64 0, .nils]) (by kernel_rfl) (by kernel_rfl) l
theorem Try.fld56_0 : fldOf Try.prog 56 0 = some (0, false, 1) := by kernel_rfl
@[go_sem] theorem Try.fa56_0 (a : V) : fieldAddrV Try.prog 56 a 0 = fldK (some (0, false, 1)) a := fieldAddrV_K Try.fld56_0 a
@[go_sem] theorem Try.fv56_0 (l : List V) : fieldV Try.prog 56 (.agg l) 0 = partC false 1 l 0 := fieldV_K Try.fld56_0 l
theorem Try.fld56_1 : fldOf Try.prog 56 1 = some (1, false, 1) := by kernel_rfl
@[go_sem] theorem Try.fa56_1 (a : V) : fieldAddrV Try.prog 56 a 1 = fldK (some (1, false, 1)) a := fieldAddrV_K Try.fld56_1 a
@[go_sem] theorem Try.fv56_1 (l : List V) : fieldV Try.prog 56 (.agg l) 1 = partC false 1 l 1 := fieldV_K Try.fld56_1 l
theorem Try.fld56_2 : fldOf Try.prog 56 2 = some (2, false, 1) := by kernel_rfl
@[go_sem] theorem Try.fa56_2 (a : V) : fieldAddrV Try.prog 56 a 2 = fldK (some (2, false, 1)) a := fieldAddrV_K Try.fld56_2 a
@[go_sem] theorem Try.fv56_2 (l : List V) : fieldV Try.prog 56 (.agg l) 2 = partC false 1 l 2 := fieldV_K Try.fld56_2 l
theorem Try.shape58 : shapeOf Try.prog 58 = some (false, 1) := by kernel_rfl
@[go_sem] theorem Try.load58 (H : Heap) (a : V) : readV Try.prog H 58 a = loadK (some (false, 1)) (obOf H a) a := readV_K Try.shape58 H a
@[go_sem] theorem Try.sz58 : szOf Try.prog 58 = some 1 := by kernel_rfl
@[go_sem] theorem Try.bytes58 : bytesV Try.prog 58 = some 8 := by kernel_rfl
@[go_sem] theorem Try.agg58 : isAggB Try.prog 58 = some false := by kernel_rfl
@[go_sem] theorem Try.zero58 : zeroC Try.prog 58 = some [.nilf] := by kernel_rfl
theorem Try.nk58 : nilKind Try.prog 58 = 3 := by kernel_rfl
@[go_sem] theorem Try.eqn58 (a : V) : binV Try.prog .eql 58 a .nilf = (nilK 3 a).map .bool := (binV_nil _ _ Try.nk58 (by simp) a).1
@[go_sem] theorem Try.nen58 (a : V) : binV Try.prog .neq 58 a .nilf = (nilK 3 a).map fun r => .bool (!r) := (binV_nil _ _ Try.nk58 (by simp) a).2
theorem Try.shape59 : shapeOf Try.prog 59 = some (false, 1) := by kernel_rfl
@[go_sem] theorem Try.load59 (H : Heap) (a : V) : readV Try.prog H 59 a = loadK (some (false, 1)) (obOf H a) a := readV_K Try.shape59 H a
@[go_sem] theorem Try.sz59 : szOf Try.prog 59 = some 1 := by kernel_rfl
@[go_sem] theorem Try.bytes59 : bytesV Try.prog 59 = some 8 := by kernel_rfl
@[go_sem] theorem Try.agg59 : isAggB Try.prog 59 = some false := by kernel_rfl
@[go_sem] theorem Try.zero59 : zeroC Try.prog 59 = some [.nilf] := by kernel_rfl
theorem Try.nk59 : nilKind Try.prog 59 = 3 := by kernel_rfl
@[go_sem] theorem Try.eqn59 (a : V) : binV Try.prog .eql 59 a .nilf = (nilK 3 a).map .bool := (binV_nil _ _ Try.nk59 (by simp) a).1
@[go_sem] theorem Try.nen59 (a : V) : binV Try.prog .neq 59 a .nilf = (nilK 3 a).map fun r => .bool (!r) := (binV_nil _ _ Try.nk59 (by simp) a).2
theorem Try.shape60 : shapeOf Try.prog 60 = some (false, 1) := by kernel_rfl
@[go_sem] theorem Try.load60 (H : Heap) (a : V) : readV Try.prog H 60 a = loadK (some (false, 1)) (obOf H a) a := readV_K Try.shape60 H a
@[go_sem] theorem Try.sz60 : szOf Try.prog 60 = some 1 := by kernel_rfl
@[go_sem] theorem Try.bytes60 : bytesV Try.prog 60 = some 8 := by kernel_rfl
@[go_sem] theorem Try.agg60 : isAggB Try.prog 60 = some false := by kernel_rfl
@[go_sem] theorem Try.zero60 : zeroC Try.prog 60 = some [.nilf] := by kernel_rfl
theorem Try.nk60 : nilKind Try.prog 60 = 3 := by kernel_rfl
@[go_sem] theorem Try.eqn60 (a : V) : binV Try.prog .eql 60 a .nilf = (nilK 3 a).map .bool := (binV_nil _ _ Try.nk60 (by simp) a).1
@[go_sem] theorem Try.nen60 (a : V) : binV Try.prog .neq 60 a .nilf = (nilK 3 a).map fun r => .bool (!r) := (binV_nil _ _ Try.nk60 (by simp) a).2
theorem Try.shape61 : shapeOf Try.prog 61 = some (false, 1) := by kernel_rfl
@[go_sem] theorem Try.load61 (H : Heap) (a : V) : readV Try.prog H 61 a = loadK (some (false, 1)) (obOf H a) a := readV_K Try.shape61 H a
@[go_sem] theorem Try.sz61 : szOf Try.prog 61 = some 1 := by kernel_rfl
@[go_sem] theorem Try.bytes61 : bytesV Try.prog 61 = some 8 := by kernel_rfl
@[go_sem] theorem Try.agg61 : isAggB Try.prog 61 = some false := by kernel_rfl
@[go_sem] theorem Try.zero61 : zeroC Try.prog 61 = some [.nilf] := by kernel_rfl
theorem Try.nk61 : nilKind Try.prog 61 = 3 := by kernel_rfl
@[go_sem] theorem Try.eqn61 (a : V) : binV Try.prog .eql 61 a .nilf = (nilK 3 a).map .bool := (binV_nil _ _ Try.nk61 (by simp) a).1
@[go_sem] theorem Try.nen61 (a : V) : binV Try.prog .neq 61 a .nilf = (nilK 3 a).map fun r => .bool (!r) := (binV_nil _ _ Try.nk61 (by simp) a).2
theorem Try.shape62 : shapeOf Try.prog 62 = some (false, 1) := by kernel_rfl
@[go_sem] theorem Try.load62 (H : Heap) (a : V) : readV Try.prog H 62 a = loadK (some (false, 1)) (obOf H a) a := readV_K Try.shape62 H a
@[go_sem] theorem Try.sz62 : szOf Try.prog 62 = some 1 := by kernel_rfl
@[go_sem] theorem Try.bytes62 : bytesV Try.prog 62 = some 8 := by kernel_rfl
@[go_sem] theorem Try.agg62 : isAggB Try.prog 62 = some false := by kernel_rfl
@[go_sem] theorem Try.zero62 : zeroC Try.prog 62 = some [.nilf] := by kernel_rfl
theorem Try.nk62 : nilKind Try.prog 62 = 3 := by kernel_rfl
@[go_sem] theorem Try.eqn62 (a : V) : binV Try.prog .eql 62 a .nilf = (nilK 3 a).map .bool := (binV_nil _ _ Try.nk62 (by simp) a).1
@[go_sem] theorem Try.nen62 (a : V) : binV Try.prog .neq 62 a .nilf = (nilK 3 a).map fun r => .bool (!r) := (binV_nil _ _ Try.nk62 (by simp) a).2
theorem Try.shape63 : shapeOf Try.prog 63 = some (false, 1) := by kernel_rfl
@[go_sem] theorem Try.load63 (H : Heap) (a : V) : readV Try.prog H 63 a = loadK (some (false, 1)) (obOf H a) a := readV_K Try.shape63 H a
@[go_sem] theorem Try.sz63 : szOf Try.prog 63 = some 1 := by kernel_rfl
@[go_sem] theorem Try.bytes63 : bytesV Try.prog 63 = some 8 := by kernel_rfl
@[go_sem] theorem Try.agg63 : isAggB Try.prog 63 = some false := by kernel_rfl
@[go_sem] theorem Try.zero63 : zeroC Try.prog 63 = some [.nilf] := by kernel_rfl
theorem Try.nk63 : nilKind Try.prog 63 = 3 := by kernel_rfl
@[go_sem] theorem Try.eqn63 (a : V) : binV Try.prog .eql 63 a .nilf = (nilK 3 a).map .bool := (binV_nil _ _ Try.nk63 (by simp) a).1
@[go_sem] theorem Try.nen63 (a : V) : binV Try.prog .neq 63 a .nilf = (nilK 3 a).map fun r => .bool (!r) := (binV_nil _ _ Try.nk63 (by simp) a).2
theorem Try.shape64 : shapeOf Try.prog 64 = some (false, 1) := by kernel_rfl
@[go_sem] theorem Try.load64 (H : Heap) (a : V) : readV Try.prog H 64 a = loadK (some (false, 1)) (obOf H a) a := readV_K Try.shape64 H a
@[go_sem] theorem Try.sz64 : szOf Try.prog 64 = some 1 := by kernel_rfl
@[go_sem] theorem Try.bytes64 : bytesV Try.prog 64 = some 8 := by kernel_rfl
@[go_sem] theorem Try.agg64 : isAggB Try.prog 64 = some false := by kernel_rfl
@[go_sem] theorem Try.zero64 : zeroC Try.prog 64 = some [.nilf] := by kernel_rfl
theorem Try.nk64 : nilKind Try.prog 64 = 3 := by kernel_rfl
@[go_sem] theorem Try.eqn64 (a : V) : binV Try.prog .eql 64 a .nilf = (nilK 3 a).map .bool := (binV_nil _ _ Try.nk64 (by simp) a).1
@[go_sem] theorem Try.nen64 (a : V) : binV Try.prog .neq 64 a .nilf = (nilK 3 a).map fun r => .bool (!r) := (binV_nil _ _ Try.nk64 (by simp) a).2
theorem Try.shape65 : shapeOf Try.prog 65 = some (false, 1) := by kernel_rfl
@[go_sem] theorem Try.load65 (H : Heap) (a : V) : readV Try.prog H 65 a = loadK (some (false, 1)) (obOf H a) a := readV_K Try.shape65 H a
@[go_sem] theorem Try.sz65 : szOf Try.prog 65 = some 1 := by kernel_rfl
@[go_sem] theorem Try.bytes65 : bytesV Try.prog 65 = some 8 := by kernel_rfl
@[go_sem] theorem Try.agg65 : isAggB Try.prog 65 = some false := by kernel_rfl
@[go_sem] theorem Try.zero65 : zeroC Try.prog 65 = some [.nilf] := by kernel_rfl
theorem Try.nk65 : nilKind Try.prog 65 = 3 := by kernel_rfl
@[go_sem] theorem Try.eqn65 (a : V) : binV Try.prog .eql 65 a .nilf = (nilK 3 a).map .bool := (binV_nil _ _ Try.nk65 (by simp) a).1
@[go_sem] theorem Try.nen65 (a : V) : binV Try.prog .neq 65 a .nilf = (nilK 3 a).map fun r => .bool (!r) := (binV_nil _ _ Try.nk65 (by simp) a).2
theorem Try.shape66 : shapeOf Try.prog 66 = some (false, 1) := by kernel_rfl
@[go_sem] theorem Try.load66 (H : Heap) (a : V) : readV Try.prog H 66 a = loadK (some (false, 1)) (obOf H a) a := readV_K Try.shape66 H a
@[go_sem] theorem Try.sz66 : szOf Try.prog 66 = some 1 := by kernel_rfl
@[go_sem] theorem Try.bytes66 : bytesV Try.prog 66 = some 8 := by kernel_rfl
@[go_sem] theorem Try.agg66 : isAggB Try.prog 66 = some false := by kernel_rfl
@[go_sem] theorem Try.zero66 : zeroC Try.prog 66 = some [.nilf] := by kernel_rfl
theorem Try.nk66 : nilKind Try.prog 66 = 3 := by kernel_rfl
@[go_sem] theorem Try.eqn66 (a : V) : binV Try.prog .eql 66 a .nilf = (nilK 3 a).map .bool := (binV_nil _ _ Try.nk66 (by simp) a).1
@[go_sem] theorem Try.nen66 (a : V) : binV Try.prog .neq 66 a .nilf = (nilK 3 a).map fun r => .bool (!r) := (binV_nil _ _ Try.nk66 (by simp) a).2
theorem Try.shape67 : shapeOf Try.prog 67 = some (false, 1) := by kernel_rfl
@[go_sem] theorem Try.load67 (H : Heap) (a : V) : readV Try.prog H 67 a = loadK (some (false, 1)) (obOf H a) a := readV_K Try.shape67 H a
@[go_sem] theorem Try.sz67 : szOf Try.prog 67 = some 1 := by kernel_rfl
@[go_sem] theorem Try.bytes67 : bytesV Try.prog 67 = some 8 := by kernel_rfl
@[go_sem] theorem Try.agg67 : isAggB Try.prog 67 = some false := by kernel_rfl
@[go_sem] theorem Try.zero67 : zeroC Try.prog 67 = some [.nilf] := by kernel_rfl
theorem Try.nk67 : nilKind Try.prog 67 = 3 := by kernel_rfl
@[go_sem] theorem Try.eqn67 (a : V) : binV Try.prog .eql 67 a .nilf = (nilK 3 a).map .bool := (binV_nil _ _ Try.nk67 (by simp) a).1
@[go_sem] theorem Try.nen67 (a : V) : binV Try.prog .neq 67 a .nilf = (nilK 3 a).map fun r => .bool (!r) := (binV_nil _ _ Try.nk67 (by simp) a).2
theorem Try.shape68 : shapeOf Try.prog 68 = some (false, 1) := by kernel_rfl
@[go_sem] theorem Try.load68 (H : Heap) (a : V) : readV Try.prog H 68 a = loadK (some (false, 1)) (obOf H a) a := readV_K Try.shape68 H a
@[go_sem] theorem Try.sz68 : szOf Try.prog 68 = some 1 := by kernel_rfl
@[go_sem] theorem Try.bytes68 : bytesV Try.prog 68 = some 8 := by kernel_rfl
@[go_sem] theorem Try.agg68 : isAggB Try.prog 68 = some false := by kernel_rfl
@[go_sem] theorem Try.zero68 : zeroC Try.prog 68 = some [.nilf] := by kernel_rfl
theorem Try.nk68 : nilKind Try.prog 68 = 3 := by kernel_rfl
@[go_sem] theorem Try.eqn68 (a : V) : binV Try.prog .eql 68 a .nilf = (nilK 3 a).map .bool := (binV_nil _ _ Try.nk68 (by simp) a).1
@[go_sem] theorem Try.nen68 (a : V) : binV Try.prog .neq 68 a .nilf = (nilK 3 a).map fun r => .bool (!r) := (binV_nil _ _ Try.nk68 (by simp) a).2
theorem Try.shape69 : shapeOf Try.prog 69 = some (false, 1) := by kernel_rfl
@[go_sem] theorem Try.load69 (H : Heap) (a : V) : readV Try.prog H 69 a = loadK (some (false, 1)) (obOf H a) a := readV_K Try.shape69 H a
@[go_sem] theorem Try.sz69 : szOf Try.prog 69 = some 1 := by kernel_rfl
@[go_sem] theorem Try.bytes69 : bytesV Try.prog 69 = some 8 := by kernel_rfl
@[go_sem] theorem Try.agg69 : isAggB Try.prog 69 = some false := by kernel_rfl
@[go_sem] theorem Try.zero69 : zeroC Try.prog 69 = some [.nilf] := by kernel_rfl
theorem Try.nk69 : nilKind Try.prog 69 = 3 := by kernel_rfl
@[go_sem] theorem Try.eqn69 (a : V) : binV Try.prog .eql 69 a .nilf = (nilK 3 a).map .bool := (binV_nil _ _ Try.nk69 (by simp) a).1
@[go_sem] theorem Try.nen69 (a : V) : binV Try.prog .neq 69 a .nilf = (nilK 3 a).map fun r => .bool (!r) := (binV_nil _ _ Try.nk69 (by simp) a).2
theorem Try.shape70 : shapeOf Try.prog 70 = some (false, 1) := by kernel_rfl
@[go_sem] theorem Try.load70 (H : Heap) (a : V) : readV Try.prog H 70 a = loadK (some (false, 1)) (obOf H a) a := readV_K Try.shape70 H a
@[go_sem] theorem Try.sz70 : szOf Try.prog 70 = some 1 := by kernel_rfl
@[go_sem] theorem Try.bytes70 : bytesV Try.prog 70 = some 8 := by kernel_rfl
@[go_sem] theorem Try.agg70 : isAggB Try.prog 70 = some false := by kernel_rfl
@[go_sem] theorem Try.zero70 : zeroC Try.prog 70 = some [.nilf] := by kernel_rfl
theorem Try.nk70 : nilKind Try.prog 70 = 3 := by kernel_rfl
@[go_sem] theorem Try.eqn70 (a : V) : binV Try.prog .eql 70 a .nilf = (nilK 3 a).map .bool := (binV_nil _ _ Try.nk70 (by simp) a).1
@[go_sem] theorem Try.nen70 (a : V) : binV Try.prog .neq 70 a .nilf = (nilK 3 a).map fun r => .bool (!r) := (binV_nil _ _ Try.nk70 (by simp) a).2
theorem Try.shape71 : shapeOf Try.prog 71 = some (false, 1) := by kernel_rfl
@[go_sem] theorem Try.load71 (H : Heap) (a : V) : readV Try.prog H 71 a = loadK (some (false, 1)) (obOf H a) a := readV_K Try.shape71 H a
@[go_sem] theorem Try.sz71 : szOf Try.prog 71 = some 1 := by kernel_rfl
@[go_sem] theorem Try.bytes71 : bytesV Try.prog 71 = some 8 := by kernel_rfl
@[go_sem] theorem Try.agg71 : isAggB Try.prog 71 = some false := by kernel_rfl
@[go_sem] theorem Try.zero71 : zeroC Try.prog 71 = some [.nilf] := by kernel_rfl
theorem Try.nk71 : nilKind Try.prog 71 = 3 := by kernel_rfl
@[go_sem] theorem Try.eqn71 (a : V) : binV Try.prog .eql 71 a .nilf = (nilK 3 a).map .bool := (binV_nil _ _ Try.nk71 (by simp) a).1
@[go_sem] theorem Try.nen71 (a : V) : binV Try.prog .neq 71 a .nilf = (nilK 3 a).map fun r => .bool (!r) := (binV_nil _ _ Try.nk71 (by simp) a).2
theorem Try.shape72 : shapeOf Try.prog 72 = some (false, 1) := by kernel_rfl
@[go_sem] theorem Try.load72 (H : Heap) (a : V) : readV Try.prog H 72 a = loadK (some (false, 1)) (obOf H a) a := readV_K Try.shape72 H a
@[go_sem] theorem Try.sz72 : szOf Try.prog 72 = some 1 := by kernel_rfl
@[go_sem] theorem Try.bytes72 : bytesV Try.prog 72 = some 8 := by kernel_rfl
@[go_sem] theorem Try.agg72 : isAggB Try.prog 72 = some false := by kernel_rfl
@[go_sem] theorem Try.zero72 : zeroC Try.prog 72 = some [.nilf] := by kernel_rfl
theorem Try.nk72 : nilKind Try.prog 72 = 3 := by kernel_rfl
@[go_sem] theorem Try.eqn72 (a : V) : binV Try.prog .eql 72 a .nilf = (nilK 3 a).map .bool := (binV_nil _ _ Try.nk72 (by simp) a).1
@[go_sem] theorem Try.nen72 (a : V) : binV Try.prog .neq 72 a .nilf = (nilK 3 a).map fun r => .bool (!r) := (binV_nil _ _ Try.nk72 (by simp) a).2
theorem Try.shape73 : shapeOf Try.prog 73 = some (false, 1) := by kernel_rfl
@[go_sem] theorem Try.load73 (H : Heap) (a : V) : readV Try.prog H 73 a = loadK (some (false, 1)) (obOf H a) a := readV_K Try.shape73 H a
@[go_sem] theorem Try.sz73 : szOf Try.prog 73 = some 1 := by kernel_rfl
@[go_sem] theorem Try.bytes73 : bytesV Try.prog 73 = some 8 := by kernel_rfl
@[go_sem] theorem Try.agg73 : isAggB Try.prog 73 = some false := by kernel_rfl
@[go_sem] theorem Try.zero73 : zeroC Try.prog 73 = some [.nilf] := by kernel_rfl
theorem Try.nk73 : nilKind Try.prog 73 = 3 := by kernel_rfl
@[go_sem] theorem Try.eqn73 (a : V) : binV Try.prog .eql 73 a .nilf = (nilK 3 a).map .bool := (binV_nil _ _ Try.nk73 (by simp) a).1
@[go_sem] theorem Try.nen73 (a : V) : binV Try.prog .neq 73 a .nilf = (nilK 3 a).map fun r => .bool (!r) := (binV_nil _ _ Try.nk73 (by simp) a).2
theorem Try.shape74 : shapeOf Try.prog 74 = some (false, 1) := by kernel_rfl
@[go_sem] theorem Try.load74 (H : Heap) (a : V) : readV Try.prog H 74 a = loadK (some (false, 1)) (obOf H a) a := readV_K Try.shape74 H a
@[go_sem] theorem Try.sz74 : szOf Try.prog 74 = some 1 := by kernel_rfl
@[go_sem] theorem Try.bytes74 : bytesV Try.prog 74 = some 8 := by kernel_rfl
@[go_sem] theorem Try.agg74 : isAggB Try.prog 74 = some false := by kernel_rfl
@[go_sem] theorem Try.zero74 : zeroC Try.prog 74 = some [.nilf] := by kernel_rfl
theorem Try.nk74 : nilKind Try.prog 74 = 3 := by kernel_rfl
@[go_sem] theorem Try.eqn74 (a : V) : binV Try.prog .eql 74 a .nilf = (nilK 3 a).map .bool := (binV_nil _ _ Try.nk74 (by simp) a).1
@[go_sem] theorem Try.nen74 (a : V) : binV Try.prog .neq 74 a .nilf = (nilK 3 a).map fun r => .bool (!r) := (binV_nil _ _ Try.nk74 (by simp) a).2
theorem Try.shape75 : shapeOf Try.prog 75 = some (false, 1) := by kernel_rfl
@[go_sem] theorem Try.load75 (H : Heap) (a : V) : readV Try.prog H 75 a = loadK (some (false, 1)) (obOf H a) a := readV_K Try.shape75 H a
@[go_sem] theorem Try.sz75 : szOf Try.prog 75 = some 1 := by kernel_rfl
@[go_sem] theorem Try.bytes75 : bytesV Try.prog 75 = some 8 := by kernel_rfl
@[go_sem] theorem Try.agg75 : isAggB Try.prog 75 = some false := by kernel_rfl
@[go_sem] theorem Try.zero75 : zeroC Try.prog 75 = some [.nilf] := by kernel_rfl
theorem Try.nk75 : nilKind Try.prog 75 = 3 := by kernel_rfl
@[go_sem] theorem Try.eqn75 (a : V) : binV Try.prog .eql 75 a .nilf = (nilK 3 a).map .bool := (binV_nil _ _ Try.nk75 (by simp) a).1
@[go_sem] theorem Try.nen75 (a : V) : binV Try.prog .neq 75 a .nilf = (nilK 3 a).map fun r => .bool (!r) := (binV_nil _ _ Try.nk75 (by simp) a).2
theorem Try.shape76 : shapeOf Try.prog 76 = some (true, 4) := by kernel_rfl
@[go_sem] theorem Try.load76 (H : Heap) (a : V) : readV Try.prog H 76 a = loadK (some (true, 4)) (obOf H a) a := readV_K Try.shape76 H a
@[go_sem] theorem Try.sz76 : szOf Try.prog 76 = some 4 := by kernel_rfl
@[go_sem] theorem Try.bytes76 : bytesV Try.prog 76 = some 40 := by kernel_rfl
@[go_sem] theorem Try.agg76 : isAggB Try.prog 76 = some true := by kernel_rfl
@[go_sem] theorem Try.zero76 : zeroC Try.prog 76 = some [.nilp, .nilp, .nilp, .str []] := by kernel_rfl
theorem Try.zeroV76 : zeroV Try.prog 76 = some (.agg [.nilp, .nilp, .nilp, .str []]) := by kernel_rfl
@[go_sem] theorem Try.bld76 (l : List (Nat × V)) : buildV Try.prog 76 l = (fillV (tblP [(0, 1), (1, 1), (2, 1), (3, 1)]) [.nilp, .nilp, .nilp, .str []] l).map .agg := buildV_K (P := Try.prog) (t := 76) (tbl := [(0, 1), (1, 1), (2, 1), (3, 1)]) (z := [.nilp, .nilp, .nilp, .str []]) (by kernel_rfl) (by kernel_rfl) l
theorem Try.fld76_0 : fldOf Try.prog 76 0 = some (0, false, 1) := by kernel_rfl
@[go_sem] theorem Try.fa76_0 (a : V) : fieldAddrV Try.prog 76 a 0 = fldK (some (0, false, 1)) a := fieldAddrV_K Try.fld76_0 a
@[go_sem] theorem Try.fv76_0 (l : List V) : fieldV Try.prog 76 (.agg l) 0 = partC false 1 l 0 := fieldV_K Try.fld76_0 l
theorem Try.fld76_1 : fldOf Try.prog 76 1 = some (1, false, 1) := by kernel_rfl
@[go_sem] theorem Try.fa76_1 (a : V) : fieldAddrV Try.prog 76 a 1 = fldK (some (1, false, 1)) a := fieldAddrV_K Try.fld76_1 a
@[go_sem] theorem Try.fv76_1 (l : List V) : fieldV Try.prog 76 (.agg l) 1 = partC false 1 l 1 := fieldV_K Try.fld76_1 l
theorem Try.fld76_2 : fldOf Try.prog 76 2 = some (2, false, 1) := by kernel_rfl
@[go_sem] theorem Try.fa76_2 (a : V) : fieldAddrV Try.prog 76 a 2 = fldK (some (2, false, 1)) a := fieldAddrV_K Try.fld76_2 a
@[go_sem] theorem Try.fv76_2 (l : List V) : fieldV Try.prog 76 (.agg l) 2 = partC false 1 l 2 := fieldV_K Try.fld76_2 l
theorem Try.fld76_3 : fldOf Try.prog 76 3 = some (3, false, 1) := by kernel_rfl
@[go_sem] theorem Try.fa76_3 (a : V) : fieldAddrV Try.prog 76 a 3 = fldK (some (3, false, 1)) a := fieldAddrV_K Try.fld76_3 a
@[go_sem] theorem Try.fv76_3 (l : List V) : fieldV Try.prog 76 (.agg l) 3 = partC false 1 l 3 := fieldV_K Try.fld76_3 l
theorem Try.shape77 : shapeOf Try.prog 77 = some (true, 4) := by kernel_rfl
@[go_sem] theorem Try.load77 (H : Heap) (a : V) : readV Try.prog H 77 a = loadK (some (true, 4)) (obOf H a) a := readV_K Try.shape77 H a
@[go_sem] theorem Try.sz77 : szOf Try.prog 77 = some 4 := by kernel_rfl
@[go_sem] theorem Try.bytes77 : bytesV Try.prog 77 = some 40 := by kernel_rfl
@[go_sem] theorem Try.agg77 : isAggB Try.prog 77 = some true := by kernel_rfl
@[go_sem] theorem Try.zero77 : zeroC Try.prog 77 = some [.nilp, .nilp, .nilp, .str []] := by kernel_rfl
theorem Try.zeroV77 : zeroV Try.prog 77 = some (.agg [.nilp, .nilp, .nilp, .str []]) := by kernel_rfl
@[go_sem] theorem Try.bld77 (l : List (Nat × V)) : buildV Try.prog 77 l = (fillV (tblP [(0, 1), (1, 1), (2, 1), (3, 1)]) [.nilp, .nilp, .nilp, .str []] l).map .agg := buildV_K (P := Try.prog) (t := 77) (tbl := [(0, 1), (1, 1), (2, 1), (3, 1)]) (z := [.nilp, .nilp, .nilp, .str []]) (by kernel_rfl) (by kernel_rfl) l
theorem Try.fld77_0 : fldOf Try.prog 77 0 = some (0, false, 1) := by kernel_rfl
@[go_sem] theorem Try.fa77_0 (a : V) : fieldAddrV Try.prog 77 a 0 = fldK (some (0, false, 1)) a := fieldAddrV_K Try.fld77_0 a
@[go_sem] theorem Try.fv77_0 (l : List V) : fieldV Try.prog 77 (.agg l) 0 = partC false 1 l 0 := fieldV_K Try.fld77_0 l
theorem Try.fld77_1 : fldOf Try.prog 77 1 = some (1, false, 1) := by kernel_rfl
@[go_sem] theorem Try.fa77_1 (a : V) : fieldAddrV Try.prog 77 a 1 = fldK (some (1, false, 1)) a := fieldAddrV_K Try.fld77_1 a
@[go_sem] theorem Try.fv77_1 (l : List V) : fieldV Try.prog 77 (.agg l) 1 = partC false 1 l 1 := fieldV_K Try.fld77_1 l
theorem Try.fld77_2 : fldOf Try.prog 77 2 = some (2, false, 1) := by kernel_rfl
@[go_sem] theorem Try.fa77_2 (a : V) : fieldAddrV Try.prog 77 a 2 = fldK (some (2, false, 1)) a := fieldAddrV_K Try.fld77_2 a
@[go_sem] theorem Try.fv77_2 (l : List V) : fieldV Try.prog 77 (.agg l) 2 = partC false 1 l 2 := fieldV_K Try.fld77_2 l
theorem Try.fld77_3 : fldOf Try.prog 77 3 = some (3, false, 1) := by kernel_rfl
@[go_sem] theorem Try.fa77_3 (a : V) : fieldAddrV Try.prog 77 a 3 = fldK (some (3, false, 1)) a := fieldAddrV_K Try.fld77_3 a
@[go_sem] theorem Try.fv77_3 (l : List V) : fieldV Try.prog 77 (.agg l) 3 = partC false 1 l 3 := fieldV_K Try.fld77_3 l
theorem Try.shape78 : shapeOf Try.prog 78 = some (true, 0) := by kernel_rfl
@[go_sem] theorem Try.load78 (H : Heap) (a : V) : readV Try.prog H 78 a = loadK (some (true, 0)) (obOf H a) a := readV_K Try.shape78 H a
@[go_sem] theorem Try.sz78 : szOf Try.prog 78 = some 0 := by kernel_rfl
@[go_sem] theorem Try.bytes78 : bytesV Try.prog 78 = some 0 := by kernel_rfl
@[go_sem] theorem Try.agg78 : isAggB Try.prog 78 = some true := by kernel_rfl
@[go_sem] theorem Try.zero78 : zeroC Try.prog 78 = some [] := by kernel_rfl
theorem Try.zeroV78 : zeroV Try.prog 78 = some (.agg []) := by kernel_rfl
theorem Try.shape79 : shapeOf Try.prog 79 = some (true, 0) := by kernel_rfl
@[go_sem] theorem Try.load79 (H : Heap) (a : V) : readV Try.prog H 79 a = loadK (some (true, 0)) (obOf H a) a := readV_K Try.shape79 H a
@[go_sem] theorem Try.sz79 : szOf Try.prog 79 = some 0 := by kernel_rfl
@[go_sem] theorem Try.bytes79 : bytesV Try.prog 79 = some 0 := by kernel_rfl
@[go_sem] theorem Try.agg79 : isAggB Try.prog 79 = some true := by kernel_rfl
@[go_sem] theorem Try.zero79 : zeroC Try.prog 79 = some [] := by kernel_rfl
theorem Try.zeroV79 : zeroV Try.prog 79 = some (.agg []) := by kernel_rfl
theorem Try.shape80 : shapeOf Try.prog 80 = some (true, 0) := by kernel_rfl
@[go_sem] theorem Try.load80 (H : Heap) (a : V) : readV Try.prog H 80 a = loadK (some (true, 0)) (obOf H a) a := readV_K Try.shape80 H a
@[go_sem] theorem Try.sz80 : szOf Try.prog 80 = some 0 := by kernel_rfl
@[go_sem] theorem Try.bytes80 : bytesV Try.prog 80 = some 0 := by kernel_rfl
@[go_sem] theorem Try.agg80 : isAggB Try.prog 80 = some true := by kernel_rfl
@[go_sem] theorem Try.zero80 : zeroC Try.prog 80 = some [] := by kernel_rfl
theorem Try.zeroV80 : zeroV Try.prog 80 = some (.agg []) := by kernel_rfl
theorem Try.shape81 : shapeOf Try.prog 81 = some (false, 1) := by kernel_rfl
@[go_sem] theorem Try.load81 (H : Heap) (a : V) : readV Try.prog H 81 a = loadK (some (false, 1)) (obOf H a) a := readV_K Try.shape81 H a
@[go_sem] theorem Try.sz81 : szOf Try.prog 81 = some 1 := by kernel_rfl
@[go_sem] theorem Try.bytes81 : bytesV Try.prog 81 = some 8 := by kernel_rfl
@[go_sem] theorem Try.agg81 : isAggB Try.prog 81 = some false := by kernel_rfl
@[go_sem] theorem Try.zero81 : zeroC Try.prog 81 = some [.nilf] := by kernel_rfl
theorem Try.nk81 : nilKind Try.prog 81 = 3 := by kernel_rfl
@[go_sem] theorem Try.eqn81 (a : V) : binV Try.prog .eql 81 a .nilf = (nilK 3 a).map .bool := (binV_nil _ _ Try.nk81 (by simp) a).1
@[go_sem] theorem Try.nen81 (a : V) : binV Try.prog .neq 81 a .nilf = (nilK 3 a).map fun r => .bool (!r) := (binV_nil _ _ Try.nk81 (by simp) a).2
theorem Try.shape82 : shapeOf Try.prog 82 = some (false, 1) := by kernel_rfl
@[go_sem] theorem Try.load82 (H : Heap) (a : V) : readV Try.prog H 82 a = loadK (some (false, 1)) (obOf H a) a := readV_K Try.shape82 H a
@[go_sem] theorem Try.sz82 : szOf Try.prog 82 = some 1 := by kernel_rfl
@[go_sem] theorem Try.bytes82 : bytesV Try.prog 82 = some 4 := by kernel_rfl
@[go_sem] theorem Try.agg82 : isAggB Try.prog 82 = some false := by kernel_rfl
@[go_sem] theorem Try.zero82 : zeroC Try.prog 82 = some [.int .u32 0] := by kernel_rfl
theorem Try.shape83 : shapeOf Try.prog 83 = some (false, 1) := by kernel_rfl
@[go_sem] theorem Try.load83 (H : Heap) (a : V) : readV Try.prog H 83 a = loadK (some (false, 1)) (obOf H a) a := readV_K Try.shape83 H a
@[go_sem] theorem Try.sz83 : szOf Try.prog 83 = some 1 := by kernel_rfl
@[go_sem] theorem Try.bytes83 : bytesV Try.prog 83 = some 1 := by kernel_rfl
@[go_sem] theorem Try.agg83 : isAggB Try.prog 83 = some false := by kernel_rfl
@[go_sem] theorem Try.zero83 : zeroC Try.prog 83 = some [.int .u8 0] := by kernel_rfl
theorem Try.shape84 : shapeOf Try.prog 84 = some (false, 1) := by kernel_rfl
@[go_sem] theorem Try.load84 (H : Heap) (a : V) : readV Try.prog H 84 a = loadK (some (false, 1)) (obOf H a) a := readV_K Try.shape84 H a
@[go_sem] theorem Try.sz84 : szOf Try.prog 84 = some 1 := by kernel_rfl
@[go_sem] theorem Try.bytes84 : bytesV Try.prog 84 = some 1 := by kernel_rfl
@[go_sem] theorem Try.agg84 : isAggB Try.prog 84 = some false := by kernel_rfl
@[go_sem] theorem Try.zero84 : zeroC Try.prog 84 = some [.int .u8 0] := by kernel_rfl
theorem Try.shape85 : shapeOf Try.prog 85 = some (false, 1) := by kernel_rfl
@[go_sem] theorem Try.load85 (H : Heap) (a : V) : readV Try.prog H 85 a = loadK (some (false, 1)) (obOf H a) a := readV_K Try.shape85 H a
@[go_sem] theorem Try.sz85 : szOf Try.prog 85 = some 1 := by kernel_rfl
@[go_sem] theorem Try.bytes85 : bytesV Try.prog 85 = some 8 := by kernel_rfl
@[go_sem] theorem Try.agg85 : isAggB Try.prog 85 = some false := by kernel_rfl
@[go_sem] theorem Try.zero85 : zeroC Try.prog 85 = some [.nilf] := by kernel_rfl
theorem Try.nk85 : nilKind Try.prog 85 = 3 := by kernel_rfl
@[go_sem] theorem Try.eqn85 (a : V) : binV Try.prog .eql 85 a .nilf = (nilK 3 a).map .bool := (binV_nil _ _ Try.nk85 (by simp) a).1
@[go_sem] theorem Try.nen85 (a : V) : binV Try.prog .neq 85 a .nilf = (nilK 3 a).map fun r => .bool (!r) := (binV_nil _ _ Try.nk85 (by simp) a).2
theorem Try.shape86 : shapeOf Try.prog 86 = some (false, 1) := by kernel_rfl
@[go_sem] theorem Try.load86 (H : Heap) (a : V) : readV Try.prog H 86 a = loadK (some (false, 1)) (obOf H a) a := readV_K Try.shape86 H a
@[go_sem] theorem Try.sz86 : szOf Try.prog 86 = some 1 := by kernel_rfl
@[go_sem] theorem Try.bytes86 : bytesV Try.prog 86 = some 8 := by kernel_rfl
@[go_sem] theorem Try.agg86 : isAggB Try.prog 86 = some false := by kernel_rfl
@[go_sem] theorem Try.zero86 : zeroC Try.prog 86 = some [.nilp] := by kernel_rfl
theorem Try.nk86 : nilKind Try.prog 86 = 1 := by kernel_rfl
@[go_sem] theorem Try.eqn86 (a : V) : binV Try.prog .eql 86 a .nilp = (nilK 1 a).map .bool := (binV_nil _ _ Try.nk86 (by simp) a).1
@[go_sem] theorem Try.nen86 (a : V) : binV Try.prog .neq 86 a .nilp = (nilK 1 a).map fun r => .bool (!r) := (binV_nil _ _ Try.nk86 (by simp) a).2
theorem Try.shape87 : shapeOf Try.prog 87 = some (false, 1) := by kernel_rfl
@[go_sem] theorem Try.load87 (H : Heap) (a : V) : readV Try.prog H 87 a = loadK (some (false, 1)) (obOf H a) a := readV_K Try.shape87 H a
@[go_sem] theorem Try.sz87 : szOf Try.prog 87 = some 1 := by kernel_rfl
@[go_sem] theorem Try.bytes87 : bytesV Try.prog 87 = some 4 := by kernel_rfl
@[go_sem] theorem Try.agg87 : isAggB Try.prog 87 = some false := by kernel_rfl
@[go_sem] theorem Try.zero87 : zeroC Try.prog 87 = some [.int .i32 0] := by kernel_rfl
theorem Try.shape88 : shapeOf Try.prog 88 = some (false, 1) := by kernel_rfl
@[go_sem] theorem Try.load88 (H : Heap) (a : V) : readV Try.prog H 88 a = loadK (some (false, 1)) (obOf H a) a := readV_K Try.shape88 H a
@[go_sem] theorem Try.sz88 : szOf Try.prog 88 = some 1 := by kernel_rfl
@[go_sem] theorem Try.bytes88 : bytesV Try.prog 88 = some 4 := by kernel_rfl
@[go_sem] theorem Try.agg88 : isAggB Try.prog 88 = some false := by kernel_rfl
@[go_sem] theorem Try.zero88 : zeroC Try.prog 88 = some [.int .i32 0] := by kernel_rfl
theorem Try.shape89 : shapeOf Try.prog 89 = some (true, 11) := by kernel_rfl
@[go_sem] theorem Try.load89 (H : Heap) (a : V) : readV Try.prog H 89 a = loadK (some (true, 11)) (obOf H a) a := readV_K Try.shape89 H a
@[go_sem] theorem Try.sz89 : szOf Try.prog 89 = some 11 := by kernel_rfl
@[go_sem] theorem Try.bytes89 : bytesV Try.prog 89 = some 48 := by kernel_rfl
@[go_sem] theorem Try.agg89 : isAggB Try.prog 89 = some true := by kernel_rfl
@[go_sem] theorem Try.zero89 : zeroC Try.prog 89 = some [.int .u64 0, .int .u64 0, .int .u32 0, .int .u8 0, .int .u8 0, .int .u8 0, .int .u8 0, .nilf, .nilp, .int .i32 0, .int .i32 0] := by kernel_rfl
theorem Try.zeroV89 : zeroV Try.prog 89 = some (.agg [.int .u64 0, .int .u64 0, .int .u32 0, .int .u8 0, .int .u8 0, .int .u8 0, .int .u8 0, .nilf, .nilp, .int .i32 0, .int .i32 0]) := by kernel_rfl
@[go_sem] theorem Try.bld89 (l : List (Nat × V)) : buildV Try.prog 89 l = (fillV (tblP [(0, 1), (1, 1), (2, 1), (3, 1), (4, 1), (5, 1), (6, 1), (7, 1), (8, 1), (9, 1), (10, 1)]) [.int .u64 0, .int .u64 0, .int .u32 0, .int .u8 0, .int .u8 0, .int .u8 0, .int .u8 0, .nilf, .nilp, .int .i32 0, .int .i32 0] l).map .agg := buildV_K (P := Try.prog) (t := 89) (tbl := [(0, 1), (1, 1), (2, 1), (3, 1), (4, 1), (5, 1), (6, 1), (7, 1), (8, 1), (9, 1), (10, 1)]) (z := [.int .u64 0, .int .u64 0, .int .u32 0, .int .u8 0, .int .u8 0, .int .u8 0, .int .u8 0, .nilf, .nilp, .int .i32 0, .int .i32 0]) (by kernel_rfl) (by kernel_rfl) l
theorem Try.fld89_0 : fldOf Try.prog 89 0 = some (0, false, 1) := by kernel_rfl
@[go_sem] theorem Try.fa89_0 (a : V) : fieldAddrV Try.prog 89 a 0 = fldK (some (0, false, 1)) a := fieldAddrV_K Try.fld89_0 a
@[go_sem] theorem Try.fv89_0 (l : List V) : fieldV Try.prog 89 (.agg l) 0 = partC false 1 l 0 := fieldV_K Try.fld89_0 l
theorem Try.fld89_1 : fldOf Try.prog 89 1 = some (1, false, 1) := by kernel_rfl
@[go_sem] theorem Try.fa89_1 (a : V) : fieldAddrV Try.prog 89 a 1 = fldK (some (1, false, 1)) a := fieldAddrV_K Try.fld89_1 a
@[go_sem] theorem Try.fv89_1 (l : List V) : fieldV Try.prog 89 (.agg l) 1 = partC false 1 l 1 := fieldV_K Try.fld89_1 l
theorem Try.fld89_2 : fldOf Try.prog 89 2 = some (2, false, 1) := by kernel_rfl
@[go_sem] theorem Try.fa89_2 (a : V) : fieldAddrV Try.prog 89 a 2 = fldK (some (2, false, 1)) a := fieldAddrV_K Try.fld89_2 a
@[go_sem] theorem Try.fv89_2 (l : List V) : fieldV Try.prog 89 (.agg l) 2 = partC false 1 l 2 := fieldV_K Try.fld89_2 l
theorem Try.fld89_3 : fldOf Try.prog 89 3 = some (3, false, 1) := by kernel_rfl
@[go_sem] theorem Try.fa89_3 (a : V) : fieldAddrV Try.prog 89 a 3 = fldK (some (3, false, 1)) a := fieldAddrV_K Try.fld89_3 a
@[go_sem] theorem Try.fv89_3 (l : List V) : fieldV Try.prog 89 (.agg l) 3 = partC false 1 l 3 := fieldV_K Try.fld89_3 l
theorem Try.fld89_4 : fldOf Try.prog 89 4 = some (4, false, 1) := by kernel_rfl
@[go_sem] theorem Try.fa89_4 (a : V) : fieldAddrV Try.prog 89 a 4 = fldK (some (4, false, 1)) a := fieldAddrV_K Try.fld89_4 a
@[go_sem] theorem Try.fv89_4 (l : List V) : fieldV Try.prog 89 (.agg l) 4 = partC false 1 l 4 := fieldV_K Try.fld89_4 l
theorem Try.fld89_5 : fldOf Try.prog 89 5 = some (5, false, 1) := by kernel_rfl
@[go_sem] theorem Try.fa89_5 (a : V) : fieldAddrV Try.prog 89 a 5 = fldK (some (5, false, 1)) a := fieldAddrV_K Try.fld89_5 a
@[go_sem] theorem Try.fv89_5 (l : List V) : fieldV Try.prog 89 (.agg l) 5 = partC false 1 l 5 := fieldV_K Try.fld89_5 l
theorem Try.fld89_6 : fldOf Try.prog 89 6 = some (6, false, 1) := by kernel_rfl
@[go_sem] theorem Try.fa89_6 (a : V) : fieldAddrV Try.prog 89 a 6 = fldK (some (6, false, 1)) a := fieldAddrV_K Try.fld89_6 a
@[go_sem] theorem Try.fv89_6 (l : List V) : fieldV Try.prog 89 (.agg l) 6 = partC false 1 l 6 := fieldV_K Try.fld89_6 l
theorem Try.fld89_7 : fldOf Try.prog 89 7 = some (7, false, 1) := by kernel_rfl
@[go_sem] theorem Try.fa89_7 (a : V) : fieldAddrV Try.prog 89 a 7 = fldK (some (7, false, 1)) a := fieldAddrV_K Try.fld89_7 a
@[go_sem] theorem Try.fv89_7 (l : List V) : fieldV Try.prog 89 (.agg l) 7 = partC false 1 l 7 := fieldV_K Try.fld89_7 l
theorem Try.fld89_8 : fldOf Try.prog 89 8 = some (8, false, 1) := by kernel_rfl
@[go_sem] theorem Try.fa89_8 (a : V) : fieldAddrV Try.prog 89 a 8 = fldK (some (8, false, 1)) a := fieldAddrV_K Try.fld89_8 a
@[go_sem] theorem Try.fv89_8 (l : List V) : fieldV Try.prog 89 (.agg l) 8 = partC false 1 l 8 := fieldV_K Try.fld89_8 l
theorem Try.fld89_9 : fldOf Try.prog 89 9 = some (9, false, 1) := by kernel_rfl
@[go_sem] theorem Try.fa89_9 (a : V) : fieldAddrV Try.prog 89 a 9 = fldK (some (9, false, 1)) a := fieldAddrV_K Try.fld89_9 a
@[go_sem] theorem Try.fv89_9 (l : List V) : fieldV Try.prog 89 (.agg l) 9 = partC false 1 l 9 := fieldV_K Try.fld89_9 l
theorem Try.fld89_10 : fldOf Try.prog 89 10 = some (10, false, 1) := by kernel_rfl
@[go_sem] theorem Try.fa89_10 (a : V) : fieldAddrV Try.prog 89 a 10 = fldK (some (10, false, 1)) a := fieldAddrV_K Try.fld89_10 a
@[go_sem] theorem Try.fv89_10 (l : List V) : fieldV Try.prog 89 (.agg l) 10 = partC false 1 l 10 := fieldV_K Try.fld89_10 l
theorem Try.shape90 : shapeOf Try.prog 90 = some (true, 11) := by kernel_rfl
@[go_sem] theorem Try.load90 (H : Heap) (a : V) : readV Try.prog H 90 a = loadK (some (true, 11)) (obOf H a) a := readV_K Try.shape90 H a
@[go_sem] theorem Try.sz90 : szOf Try.prog 90 = some 11 := by kernel_rfl
@[go_sem] theorem Try.bytes90 : bytesV Try.prog 90 = some 48 := by kernel_rfl
@[go_sem] theorem Try.agg90 : isAggB Try.prog 90 = some true := by kernel_rfl
@[go_sem] theorem Try.zero90 : zeroC Try.prog 90 = some [.int .u64 0, .int .u64 0, .int .u32 0, .int .u8 0, .int .u8 0, .int .u8 0, .int .u8 0, .nilf, .nilp, .int .i32 0, .int .i32 0] := by kernel_rfl
theorem Try.zeroV90 : zeroV Try.prog 90 = some (.agg [.int .u64 0, .int .u64 0, .int .u32 0, .int .u8 0, .int .u8 0, .int .u8 0, .int .u8 0, .nilf, .nilp, .int .i32 0, .int .i32 0]) := by kernel_rfl
@[go_sem] theorem Try.bld90 (l : List (Nat × V)) : buildV Try.prog 90 l = (fillV (tblP [(0, 1), (1, 1), (2, 1), (3, 1), (4, 1), (5, 1), (6, 1), (7, 1), (8, 1), (9, 1), (10, 1)]) [.int .u64 0, .int .u64 0, .int .u32 0, .int .u8 0, .int .u8 0, .int .u8 0, .int .u8 0, .nilf, .nilp, .int .i32 0, .int .i32 0] l).map .agg := buildV_K (P := Try.prog) (t := 90) (tbl := [(0, 1), (1, 1), (2, 1), (3, 1), (4, 1), (5, 1), (6, 1), (7, 1), (8, 1), (9, 1), (10, 1)]) (z := [.int .u64 0, .int .u64 0, .int .u32 0, .int .u8 0, .int .u8 0, .int .u8 0, .int .u8 0, .nilf, .nilp, .int .i32 0, .int .i32 0]) (by kernel_rfl) (by kernel_rfl) l
theorem Try.fld90_0 : fldOf Try.prog 90 0 = some (0, false, 1) := by kernel_rfl
@[go_sem] theorem Try.fa90_0 (a : V) : fieldAddrV Try.prog 90 a 0 = fldK (some (0, false, 1)) a := fieldAddrV_K Try.fld90_0 a
@[go_sem] theorem Try.fv90_0 (l : List V) : fieldV Try.prog 90 (.agg l) 0 = partC false 1 l 0 := fieldV_K Try.fld90_0 l
theorem Try.fld90_1 : fldOf Try.prog 90 1 = some (1, false, 1) := by kernel_rfl
@[go_sem] theorem Try.fa90_1 (a : V) : fieldAddrV Try.prog 90 a 1 = fldK (some (1, false, 1)) a := fieldAddrV_K Try.fld90_1 a
@[go_sem] theorem Try.fv90_1 (l : List V) : fieldV Try.prog 90 (.agg l) 1 = partC false 1 l 1 := fieldV_K Try.fld90_1 l
theorem Try.fld90_2 : fldOf Try.prog 90 2 = some (2, false, 1) := by kernel_rfl
@[go_sem] theorem Try.fa90_2 (a : V) : fieldAddrV Try.prog 90 a 2 = fldK (some (2, false, 1)) a := fieldAddrV_K Try.fld90_2 a
@[go_sem] theorem Try.fv90_2 (l : List V) : fieldV Try.prog 90 (.agg l) 2 = partC false 1 l 2 := fieldV_K Try.fld90_2 l
theorem Try.fld90_3 : fldOf Try.prog 90 3 = some (3, false, 1) := by kernel_rfl
@[go_sem] theorem Try.fa90_3 (a : V) : fieldAddrV Try.prog 90 a 3 = fldK (some (3, false, 1)) a := fieldAddrV_K Try.fld90_3 a
@[go_sem] theorem Try.fv90_3 (l : List V) : fieldV Try.prog 90 (.agg l) 3 = partC false 1 l 3 := fieldV_K Try.fld90_3 l
theorem Try.fld90_4 : fldOf Try.prog 90 4 = some (4, false, 1) := by kernel_rfl
@[go_sem] theorem Try.fa90_4 (a : V) : fieldAddrV Try.prog 90 a 4 = fldK (some (4, false, 1)) a := fieldAddrV_K Try.fld90_4 a
@[go_sem] theorem Try.fv90_4 (l : List V) : fieldV Try.prog 90 (.agg l) 4 = partC false 1 l 4 := fieldV_K Try.fld90_4 l
theorem Try.fld90_5 : fldOf Try.prog 90 5 = some (5, false, 1) := by kernel_rfl
@[go_sem] theorem Try.fa90_5 (a : V) : fieldAddrV Try.prog 90 a 5 = fldK (some (5, false, 1)) a := fieldAddrV_K Try.fld90_5 a
@[go_sem] theorem Try.fv90_5 (l : List V) : fieldV Try.prog 90 (.agg l) 5 = partC false 1 l 5 := fieldV_K Try.fld90_5 l
theorem Try.fld90_6 : fldOf Try.prog 90 6 = some (6, false, 1) := by kernel_rfl
@[go_sem] theorem Try.fa90_6 (a : V) : fieldAddrV Try.prog 90 a 6 = fldK (some (6, false, 1)) a := fieldAddrV_K Try.fld90_6 a
@[go_sem] theorem Try.fv90_6 (l : List V) : fieldV Try.prog 90 (.agg l) 6 = partC false 1 l 6 := fieldV_K Try.fld90_6 l
theorem Try.fld90_7 : fldOf Try.prog 90 7 = some (7, false, 1) := by kernel_rfl
@[go_sem] theorem Try.fa90_7 (a : V) : fieldAddrV Try.prog 90 a 7 = fldK (some (7, false, 1)) a := fieldAddrV_K Try.fld90_7 a
@[go_sem] theorem Try.fv90_7 (l : List V) : fieldV Try.prog 90 (.agg l) 7 = partC false 1 l 7 := fieldV_K Try.fld90_7 l
theorem Try.fld90_8 : fldOf Try.prog 90 8 = some (8, false, 1) := by kernel_rfl
@[go_sem] theorem Try.fa90_8 (a : V) : fieldAddrV Try.prog 90 a 8 = fldK (some (8, false, 1)) a := fieldAddrV_K Try.fld90_8 a
@[go_sem] theorem Try.fv90_8 (l : List V) : fieldV Try.prog 90 (.agg l) 8 = partC false 1 l 8 := fieldV_K Try.fld90_8 l
theorem Try.fld90_9 : fldOf Try.prog 90 9 = some (9, false, 1) := by kernel_rfl
@[go_sem] theorem Try.fa90_9 (a : V) : fieldAddrV Try.prog 90 a 9 = fldK (some (9, false, 1)) a := fieldAddrV_K Try.fld90_9 a
@[go_sem] theorem Try.fv90_9 (l : List V) : fieldV Try.prog 90 (.agg l) 9 = partC false 1 l 9 := fieldV_K Try.fld90_9 l
theorem Try.fld90_10 : fldOf Try.prog 90 10 = some (10, false, 1) := by kernel_rfl
@[go_sem] theorem Try.fa90_10 (a : V) : fieldAddrV Try.prog 90 a 10 = fldK (some (10, false, 1)) a := fieldAddrV_K Try.fld90_10 a
@[go_sem] theorem Try.fv90_10 (l : List V) : fieldV Try.prog 90 (.agg l) 10 = partC false 1 l 10 := fieldV_K Try.fld90_10 l
theorem Try.shape91 : shapeOf Try.prog 91 = some (false, 1) := by kernel_rfl
@[go_sem] theorem Try.load91 (H : Heap) (a : V) : readV Try.prog H 91 a = loadK (some (false, 1)) (obOf H a) a := readV_K Try.shape91 H a
@[go_sem] theorem Try.sz91 : szOf Try.prog 91 = some 1 := by kernel_rfl
@[go_sem] theorem Try.bytes91 : bytesV Try.prog 91 = some 8 := by kernel_rfl
@[go_sem] theorem Try.agg91 : isAggB Try.prog 91 = some false := by kernel_rfl
@[go_sem] theorem Try.zero91 : zeroC Try.prog 91 = some [.nilp] := by kernel_rfl
@[go_sem] theorem Try.cv2_3 (k : IntKind) (n : Int) : convV Try.prog 2 3 (.int k n) = some (.int .i64 (IntKind.wrap .i64 n)) := conv_int (P := Try.prog) (s := 2) (d := 3) (by kernel_rfl) (by kernel_rfl) k n
@[go_sem] theorem Try.cv2_5 (k : IntKind) (n : Int) : convV Try.prog 2 5 (.int k n) = some (.int .u8 (IntKind.wrap .u8 n)) := conv_int (P := Try.prog) (s := 2) (d := 5) (by kernel_rfl) (by kernel_rfl) k n
@[go_sem] theorem Try.cv2_6 (k : IntKind) (n : Int) : convV Try.prog 2 6 (.int k n) = some (.int .u8 (IntKind.wrap .u8 n)) := conv_int (P := Try.prog) (s := 2) (d := 6) (by kernel_rfl) (by kernel_rfl) k n
@[go_sem] theorem Try.cv2_12 (k : IntKind) (n : Int) : convV Try.prog 2 12 (.int k n) = some (.int .u64 (IntKind.wrap .u64 n)) := conv_int (P := Try.prog) (s := 2) (d := 12) (by kernel_rfl) (by kernel_rfl) k n
@[go_sem] theorem Try.cv2_21 (k : IntKind) (n : Int) : convV Try.prog 2 21 (.int k n) = some (.int .i32 (IntKind.wrap .i32 n)) := conv_int (P := Try.prog) (s := 2) (d := 21) (by kernel_rfl) (by kernel_rfl) k n
@[go_sem] theorem Try.cv2_82 (k : IntKind) (n : Int) : convV Try.prog 2 82 (.int k n) = some (.int .u32 (IntKind.wrap .u32 n)) := conv_int (P := Try.prog) (s := 2) (d := 82) (by kernel_rfl) (by kernel_rfl) k n
@[go_sem] theorem Try.cv2_83 (k : IntKind) (n : Int) : convV Try.prog 2 83 (.int k n) = some (.int .u8 (IntKind.wrap .u8 n)) := conv_int (P := Try.prog) (s := 2) (d := 83) (by kernel_rfl) (by kernel_rfl) k n
@[go_sem] theorem Try.cv2_84 (k : IntKind) (n : Int) : convV Try.prog 2 84 (.int k n) = some (.int .u8 (IntKind.wrap .u8 n)) := conv_int (P := Try.prog) (s := 2) (d := 84) (by kernel_rfl) (by kernel_rfl) k n
@[go_sem] theorem Try.cv2_87 (k : IntKind) (n : Int) : convV Try.prog 2 87 (.int k n) = some (.int .i32 (IntKind.wrap .i32 n)) := conv_int (P := Try.prog) (s := 2) (d := 87) (by kernel_rfl) (by kernel_rfl) k n
@[go_sem] theorem Try.cv2_88 (k : IntKind) (n : Int) : convV Try.prog 2 88 (.int k n) = some (.int .i32 (IntKind.wrap .i32 n)) := conv_int (P := Try.prog) (s := 2) (d := 88) (by kernel_rfl) (by kernel_rfl) k n
@[go_sem] theorem Try.cv3_2 (k : IntKind) (n : Int) : convV Try.prog 3 2 (.int k n) = some (.int .i64 (IntKind.wrap .i64 n)) := conv_int (P := Try.prog) (s := 3) (d := 2) (by kernel_rfl) (by kernel_rfl) k n
@[go_sem] theorem Try.cv3_5 (k : IntKind) (n : Int) : convV Try.prog 3 5 (.int k n) = some (.int .u8 (IntKind.wrap .u8 n)) := conv_int (P := Try.prog) (s := 3) (d := 5) (by kernel_rfl) (by kernel_rfl) k n
@[go_sem] theorem Try.cv3_6 (k : IntKind) (n : Int) : convV Try.prog 3 6 (.int k n) = some (.int .u8 (IntKind.wrap .u8 n)) := conv_int (P := Try.prog) (s := 3) (d := 6) (by kernel_rfl) (by kernel_rfl) k n
@[go_sem] theorem Try.cv3_12 (k : IntKind) (n : Int) : convV Try.prog 3 12 (.int k n) = some (.int .u64 (IntKind.wrap .u64 n)) := conv_int (P := Try.prog) (s := 3) (d := 12) (by kernel_rfl) (by kernel_rfl) k n
@[go_sem] theorem Try.cv3_21 (k : IntKind) (n : Int) : convV Try.prog 3 21 (.int k n) = some (.int .i32 (IntKind.wrap .i32 n)) := conv_int (P := Try.prog) (s := 3) (d := 21) (by kernel_rfl) (by kernel_rfl) k n
@[go_sem] theorem Try.cv3_82 (k : IntKind) (n : Int) : convV Try.prog 3 82 (.int k n) = some (.int .u32 (IntKind.wrap .u32 n)) := conv_int (P := Try.prog) (s := 3) (d := 82) (by kernel_rfl) (by kernel_rfl) k n
@[go_sem] theorem Try.cv3_83 (k : IntKind) (n : Int) : convV Try.prog 3 83 (.int k n) = some (.int .u8 (IntKind.wrap .u8 n)) := conv_int (P := Try.prog) (s := 3) (d := 83) (by kernel_rfl) (by kernel_rfl) k n
@[go_sem] theorem Try.cv3_84 (k : IntKind) (n : Int) : convV Try.prog 3 84 (.int k n) = some (.int .u8 (IntKind.wrap .u8 n)) := conv_int (P := Try.prog) (s := 3) (d := 84) (by kernel_rfl) (by kernel_rfl) k n
@[go_sem] theorem Try.cv3_87 (k : IntKind) (n : Int) : convV Try.prog 3 87 (.int k n) = some (.int .i32 (IntKind.wrap .i32 n)) := conv_int (P := Try.prog) (s := 3) (d := 87) (by kernel_rfl) (by kernel_rfl) k n
@[go_sem] theorem Try.cv3_88 (k : IntKind) (n : Int) : convV Try.prog 3 88 (.int k n) = some (.int .i32 (IntKind.wrap .i32 n)) := conv_int (P := Try.prog) (s := 3) (d := 88) (by kernel_rfl) (by kernel_rfl) k n
@[go_sem] theorem Try.cv5_2 (k : IntKind) (n : Int) : convV Try.prog 5 2 (.int k n) = some (.int .i64 (IntKind.wrap .i64 n)) := conv_int (P := Try.prog) (s := 5) (d := 2) (by kernel_rfl) (by kernel_rfl) k n
@[go_sem] theorem Try.cv5_3 (k : IntKind) (n : Int) : convV Try.prog 5 3 (.int k n) = some (.int .i64 (IntKind.wrap .i64 n)) := conv_int (P := Try.prog) (s := 5) (d := 3) (by kernel_rfl) (by kernel_rfl) k n
@[go_sem] theorem Try.cv5_6 (k : IntKind) (n : Int) : convV Try.prog 5 6 (.int k n) = some (.int .u8 (IntKind.wrap .u8 n)) := conv_int (P := Try.prog) (s := 5) (d := 6) (by kernel_rfl) (by kernel_rfl) k n
@[go_sem] theorem Try.cv5_12 (k : IntKind) (n : Int) : convV Try.prog 5 12 (.int k n) = some (.int .u64 (IntKind.wrap .u64 n)) := conv_int (P := Try.prog) (s := 5) (d := 12) (by kernel_rfl) (by kernel_rfl) k n
@[go_sem] theorem Try.cv5_21 (k : IntKind) (n : Int) : convV Try.prog 5 21 (.int k n) = some (.int .i32 (IntKind.wrap .i32 n)) := conv_int (P := Try.prog) (s := 5) (d := 21) (by kernel_rfl) (by kernel_rfl) k n
@[go_sem] theorem Try.cv5_82 (k : IntKind) (n : Int) : convV Try.prog 5 82 (.int k n) = some (.int .u32 (IntKind.wrap .u32 n)) := conv_int (P := Try.prog) (s := 5) (d := 82) (by kernel_rfl) (by kernel_rfl) k n
@[go_sem] theorem Try.cv5_83 (k : IntKind) (n : Int) : convV Try.prog 5 83 (.int k n) = some (.int .u8 (IntKind.wrap .u8 n)) := conv_int (P := Try.prog) (s := 5) (d := 83) (by kernel_rfl) (by kernel_rfl) k n
@[go_sem] theorem Try.cv5_84 (k : IntKind) (n : Int) : convV Try.prog 5 84 (.int k n) = some (.int .u8 (IntKind.wrap .u8 n)) := conv_int (P := Try.prog) (s := 5) (d := 84) (by kernel_rfl) (by kernel_rfl) k n
@[go_sem] theorem Try.cv5_87 (k : IntKind) (n : Int) : convV Try.prog 5 87 (.int k n) = some (.int .i32 (IntKind.wrap .i32 n)) := conv_int (P := Try.prog) (s := 5) (d := 87) (by kernel_rfl) (by kernel_rfl) k n
@[go_sem] theorem Try.cv5_88 (k : IntKind) (n : Int) : convV Try.prog 5 88 (.int k n) = some (.int .i32 (IntKind.wrap .i32 n)) := conv_int (P := Try.prog) (s := 5) (d := 88) (by kernel_rfl) (by kernel_rfl) k n
@[go_sem] theorem Try.cv6_2 (k : IntKind) (n : Int) : convV Try.prog 6 2 (.int k n) = some (.int .i64 (IntKind.wrap .i64 n)) := conv_int (P := Try.prog) (s := 6) (d := 2) (by kernel_rfl) (by kernel_rfl) k n
@[go_sem] theorem Try.cv6_3 (k : IntKind) (n : Int) : convV Try.prog 6 3 (.int k n) = some (.int .i64 (IntKind.wrap .i64 n)) := conv_int (P := Try.prog) (s := 6) (d := 3) (by kernel_rfl) (by kernel_rfl) k n
@[go_sem] theorem Try.cv6_5 (k : IntKind) (n : Int) : convV Try.prog 6 5 (.int k n) = some (.int .u8 (IntKind.wrap .u8 n)) := conv_int (P := Try.prog) (s := 6) (d := 5) (by kernel_rfl) (by kernel_rfl) k n
@[go_sem] theorem Try.cv6_12 (k : IntKind) (n : Int) : convV Try.prog 6 12 (.int k n) = some (.int .u64 (IntKind.wrap .u64 n)) := conv_int (P := Try.prog) (s := 6) (d := 12) (by kernel_rfl) (by kernel_rfl) k n
@[go_sem] theorem Try.cv6_21 (k : IntKind) (n : Int) : convV Try.prog 6 21 (.int k n) = some (.int .i32 (IntKind.wrap .i32 n)) := conv_int (P := Try.prog) (s := 6) (d := 21) (by kernel_rfl) (by kernel_rfl) k n
@[go_sem] theorem Try.cv6_82 (k : IntKind) (n : Int) : convV Try.prog 6 82 (.int k n) = some (.int .u32 (IntKind.wrap .u32 n)) := conv_int (P := Try.prog) (s := 6) (d := 82) (by kernel_rfl) (by kernel_rfl) k n
@[go_sem] theorem Try.cv6_83 (k : IntKind) (n : Int) : convV Try.prog 6 83 (.int k n) = some (.int .u8 (IntKind.wrap .u8 n)) := conv_int (P := Try.prog) (s := 6) (d := 83) (by kernel_rfl) (by kernel_rfl) k n
@[go_sem] theorem Try.cv6_84 (k : IntKind) (n : Int) : convV Try.prog 6 84 (.int k n) = some (.int .u8 (IntKind.wrap .u8 n)) := conv_int (P := Try.prog) (s := 6) (d := 84) (by kernel_rfl) (by kernel_rfl) k n
@[go_sem] theorem Try.cv6_87 (k : IntKind) (n : Int) : convV Try.prog 6 87 (.int k n) = some (.int .i32 (IntKind.wrap .i32 n)) := conv_int (P := Try.prog) (s := 6) (d := 87) (by kernel_rfl) (by kernel_rfl) k n
@[go_sem] theorem Try.cv6_88 (k : IntKind) (n : Int) : convV Try.prog 6 88 (.int k n) = some (.int .i32 (IntKind.wrap .i32 n)) := conv_int (P := Try.prog) (s := 6) (d := 88) (by kernel_rfl) (by kernel_rfl) k n
@[go_sem] theorem Try.cv12_2 (k : IntKind) (n : Int) : convV Try.prog 12 2 (.int k n) = some (.int .i64 (IntKind.wrap .i64 n)) := conv_int (P := Try.prog) (s := 12) (d := 2) (by kernel_rfl) (by kernel_rfl) k n
@[go_sem] theorem Try.cv12_3 (k : IntKind) (n : Int) : convV Try.prog 12 3 (.int k n) = some (.int .i64 (IntKind.wrap .i64 n)) := conv_int (P := Try.prog) (s := 12) (d := 3) (by kernel_rfl) (by kernel_rfl) k n
@[go_sem] theorem Try.cv12_5 (k : IntKind) (n : Int) : convV Try.prog 12 5 (.int k n) = some (.int .u8 (IntKind.wrap .u8 n)) := conv_int (P := Try.prog) (s := 12) (d := 5) (by kernel_rfl) (by kernel_rfl) k n
@[go_sem] theorem Try.cv12_6 (k : IntKind) (n : Int) : convV Try.prog 12 6 (.int k n) = some (.int .u8 (IntKind.wrap .u8 n)) := conv_int (P := Try.prog) (s := 12) (d := 6) (by kernel_rfl) (by kernel_rfl) k n
@[go_sem] theorem Try.cv12_21 (k : IntKind) (n : Int) : convV Try.prog 12 21 (.int k n) = some (.int .i32 (IntKind.wrap .i32 n)) := conv_int (P := Try.prog) (s := 12) (d := 21) (by kernel_rfl) (by kernel_rfl) k n
@[go_sem] theorem Try.cv12_82 (k : IntKind) (n : Int) : convV Try.prog 12 82 (.int k n) = some (.int .u32 (IntKind.wrap .u32 n)) := conv_int (P := Try.prog) (s := 12) (d := 82) (by kernel_rfl) (by kernel_rfl) k n
@[go_sem] theorem Try.cv12_83 (k : IntKind) (n : Int) : convV Try.prog 12 83 (.int k n) = some (.int .u8 (IntKind.wrap .u8 n)) := conv_int (P := Try.prog) (s := 12) (d := 83) (by kernel_rfl) (by kernel_rfl) k n
@[go_sem] theorem Try.cv12_84 (k : IntKind) (n : Int) : convV Try.prog 12 84 (.int k n) = some (.int .u8 (IntKind.wrap .u8 n)) := conv_int (P := Try.prog) (s := 12) (d := 84) (by kernel_rfl) (by kernel_rfl) k n
@[go_sem] theorem Try.cv12_87 (k : IntKind) (n : Int) : convV Try.prog 12 87 (.int k n) = some (.int .i32 (IntKind.wrap .i32 n)) := conv_int (P := Try.prog) (s := 12) (d := 87) (by kernel_rfl) (by kernel_rfl) k n
@[go_sem] theorem Try.cv12_88 (k : IntKind) (n : Int) : convV Try.prog 12 88 (.int k n) = some (.int .i32 (IntKind.wrap .i32 n)) := conv_int (P := Try.prog) (s := 12) (d := 88) (by kernel_rfl) (by kernel_rfl) k n
@[go_sem] theorem Try.cv21_2 (k : IntKind) (n : Int) : convV Try.prog 21 2 (.int k n) = some (.int .i64 (IntKind.wrap .i64 n)) := conv_int (P := Try.prog) (s := 21) (d := 2) (by kernel_rfl) (by kernel_rfl) k n
@[go_sem] theorem Try.cv21_3 (k : IntKind) (n : Int) : convV Try.prog 21 3 (.int k n) = some (.int .i64 (IntKind.wrap .i64 n)) := conv_int (P := Try.prog) (s := 21) (d := 3) (by kernel_rfl) (by kernel_rfl) k n
@[go_sem] theorem Try.cv21_5 (k : IntKind) (n : Int) : convV Try.prog 21 5 (.int k n) = some (.int .u8 (IntKind.wrap .u8 n)) := conv_int (P := Try.prog) (s := 21) (d := 5) (by kernel_rfl) (by kernel_rfl) k n
@[go_sem] theorem Try.cv21_6 (k : IntKind) (n : Int) : convV Try.prog 21 6 (.int k n) = some (.int .u8 (IntKind.wrap .u8 n)) := conv_int (P := Try.prog) (s := 21) (d := 6) (by kernel_rfl) (by kernel_rfl) k n
@[go_sem] theorem Try.cv21_12 (k : IntKind) (n : Int) : convV Try.prog 21 12 (.int k n) = some (.int .u64 (IntKind.wrap .u64 n)) := conv_int (P := Try.prog) (s := 21) (d := 12) (by kernel_rfl) (by kernel_rfl) k n
@[go_sem] theorem Try.cv21_82 (k : IntKind) (n : Int) : convV Try.prog 21 82 (.int k n) = some (.int .u32 (IntKind.wrap .u32 n)) := conv_int (P := Try.prog) (s := 21) (d := 82) (by kernel_rfl) (by kernel_rfl) k n
@[go_sem] theorem Try.cv21_83 (k : IntKind) (n : Int) : convV Try.prog 21 83 (.int k n) = some (.int .u8 (IntKind.wrap .u8 n)) := conv_int (P := Try.prog) (s := 21) (d := 83) (by kernel_rfl) (by kernel_rfl) k n
@[go_sem] theorem Try.cv21_84 (k : IntKind) (n : Int) : convV Try.prog 21 84 (.int k n) = some (.int .u8 (IntKind.wrap .u8 n)) := conv_int (P := Try.prog) (s := 21) (d := 84) (by kernel_rfl) (by kernel_rfl) k n
@[go_sem] theorem Try.cv21_87 (k : IntKind) (n : Int) : convV Try.prog 21 87 (.int k n) = some (.int .i32 (IntKind.wrap .i32 n)) := conv_int (P := Try.prog) (s := 21) (d := 87) (by kernel_rfl) (by kernel_rfl) k n
@[go_sem] theorem Try.cv21_88 (k : IntKind) (n : Int) : convV Try.prog 21 88 (.int k n) = some (.int .i32 (IntKind.wrap .i32 n)) := conv_int (P := Try.prog) (s := 21) (d := 88) (by kernel_rfl) (by kernel_rfl) k n
@[go_sem] theorem Try.cv82_2 (k : IntKind) (n : Int) : convV Try.prog 82 2 (.int k n) = some (.int .i64 (IntKind.wrap .i64 n)) := conv_int (P := Try.prog) (s := 82) (d := 2) (by kernel_rfl) (by kernel_rfl) k n
@[go_sem] theorem Try.cv82_3 (k : IntKind) (n : Int) : convV Try.prog 82 3 (.int k n) = some (.int .i64 (IntKind.wrap .i64 n)) := conv_int (P := Try.prog) (s := 82) (d := 3) (by kernel_rfl) (by kernel_rfl) k n
@[go_sem] theorem Try.cv82_5 (k : IntKind) (n : Int) : convV Try.prog 82 5 (.int k n) = some (.int .u8 (IntKind.wrap .u8 n)) := conv_int (P := Try.prog) (s := 82) (d := 5) (by kernel_rfl) (by kernel_rfl) k n
@[go_sem] theorem Try.cv82_6 (k : IntKind) (n : Int) : convV Try.prog 82 6 (.int k n) = some (.int .u8 (IntKind.wrap .u8 n)) := conv_int (P := Try.prog) (s := 82) (d := 6) (by kernel_rfl) (by kernel_rfl) k n
@[go_sem] theorem Try.cv82_12 (k : IntKind) (n : Int) : convV Try.prog 82 12 (.int k n) = some (.int .u64 (IntKind.wrap .u64 n)) := conv_int (P := Try.prog) (s := 82) (d := 12) (by kernel_rfl) (by kernel_rfl) k n
@[go_sem] theorem Try.cv82_21 (k : IntKind) (n : Int) : convV Try.prog 82 21 (.int k n) = some (.int .i32 (IntKind.wrap .i32 n)) := conv_int (P := Try.prog) (s := 82) (d := 21) (by kernel_rfl) (by kernel_rfl) k n
@[go_sem] theorem Try.cv82_83 (k : IntKind) (n : Int) : convV Try.prog 82 83 (.int k n) = some (.int .u8 (IntKind.wrap .u8 n)) := conv_int (P := Try.prog) (s := 82) (d := 83) (by kernel_rfl) (by kernel_rfl) k n
@[go_sem] theorem Try.cv82_84 (k : IntKind) (n : Int) : convV Try.prog 82 84 (.int k n) = some (.int .u8 (IntKind.wrap .u8 n)) := conv_int (P := Try.prog) (s := 82) (d := 84) (by kernel_rfl) (by kernel_rfl) k n
@[go_sem] theorem Try.cv82_87 (k : IntKind) (n : Int) : convV Try.prog 82 87 (.int k n) = some (.int .i32 (IntKind.wrap .i32 n)) := conv_int (P := Try.prog) (s := 82) (d := 87) (by kernel_rfl) (by kernel_rfl) k n
@[go_sem] theorem Try.cv82_88 (k : IntKind) (n : Int) : convV Try.prog 82 88 (.int k n) = some (.int .i32 (IntKind.wrap .i32 n)) := conv_int (P := Try.prog) (s := 82) (d := 88) (by kernel_rfl) (by kernel_rfl) k n
@[go_sem] theorem Try.cv83_2 (k : IntKind) (n : Int) : convV Try.prog 83 2 (.int k n) = some (.int .i64 (IntKind.wrap .i64 n)) := conv_int (P := Try.prog) (s := 83) (d := 2) (by kernel_rfl) (by kernel_rfl) k n
@[go_sem] theorem Try.cv83_3 (k : IntKind) (n : Int) : convV Try.prog 83 3 (.int k n) = some (.int .i64 (IntKind.wrap .i64 n)) := conv_int (P := Try.prog) (s := 83) (d := 3) (by kernel_rfl) (by kernel_rfl) k n
@[go_sem] theorem Try.cv83_5 (k : IntKind) (n : Int) : convV Try.prog 83 5 (.int k n) = some (.int .u8 (IntKind.wrap .u8 n)) := conv_int (P := Try.prog) (s := 83) (d := 5) (by kernel_rfl) (by kernel_rfl) k n
@[go_sem] theorem Try.cv83_6 (k : IntKind) (n : Int) : convV Try.prog 83 6 (.int k n) = some (.int .u8 (IntKind.wrap .u8 n)) := conv_int (P := Try.prog) (s := 83) (d := 6) (by kernel_rfl) (by kernel_rfl) k n
@[go_sem] theorem Try.cv83_12 (k : IntKind) (n : Int) : convV Try.prog 83 12 (.int k n) = some (.int .u64 (IntKind.wrap .u64 n)) := conv_int (P := Try.prog) (s := 83) (d := 12) (by kernel_rfl) (by kernel_rfl) k n
@[go_sem] theorem Try.cv83_21 (k : IntKind) (n : Int) : convV Try.prog 83 21 (.int k n) = some (.int .i32 (IntKind.wrap .i32 n)) := conv_int (P := Try.prog) (s := 83) (d := 21) (by kernel_rfl) (by kernel_rfl) k n
@[go_sem] theorem Try.cv83_82 (k : IntKind) (n : Int) : convV Try.prog 83 82 (.int k n) = some (.int .u32 (IntKind.wrap .u32 n)) := conv_int (P := Try.prog) (s := 83) (d := 82) (by kernel_rfl) (by kernel_rfl) k n
@[go_sem] theorem Try.cv83_84 (k : IntKind) (n : Int) : convV Try.prog 83 84 (.int k n) = some (.int .u8 (IntKind.wrap .u8 n)) := conv_int (P := Try.prog) (s := 83) (d := 84) (by kernel_rfl) (by kernel_rfl) k n
@[go_sem] theorem Try.cv83_87 (k : IntKind) (n : Int) : convV Try.prog 83 87 (.int k n) = some (.int .i32 (IntKind.wrap .i32 n)) := conv_int (P := Try.prog) (s := 83) (d := 87) (by kernel_rfl) (by kernel_rfl) k n
@[go_sem] theorem Try.cv83_88 (k : IntKind) (n : Int) : convV Try.prog 83 88 (.int k n) = some (.int .i32 (IntKind.wrap .i32 n)) := conv_int (P := Try.prog) (s := 83) (d := 88) (by kernel_rfl) (by kernel_rfl) k n
@[go_sem] theorem Try.cv84_2 (k : IntKind) (n : Int) : convV Try.prog 84 2 (.int k n) = some (.int .i64 (IntKind.wrap .i64 n)) := conv_int (P := Try.prog) (s := 84) (d := 2) (by kernel_rfl) (by kernel_rfl) k n
@[go_sem] theorem Try.cv84_3 (k : IntKind) (n : Int) : convV Try.prog 84 3 (.int k n) = some (.int .i64 (IntKind.wrap .i64 n)) := conv_int (P := Try.prog) (s := 84) (d := 3) (by kernel_rfl) (by kernel_rfl) k n
@[go_sem] theorem Try.cv84_5 (k : IntKind) (n : Int) : convV Try.prog 84 5 (.int k n) = some (.int .u8 (IntKind.wrap .u8 n)) := conv_int (P := Try.prog) (s := 84) (d := 5) (by kernel_rfl) (by kernel_rfl) k n
@[go_sem] theorem Try.cv84_6 (k : IntKind) (n : Int) : convV Try.prog 84 6 (.int k n) = some (.int .u8 (IntKind.wrap .u8 n)) := conv_int (P := Try.prog) (s := 84) (d := 6) (by kernel_rfl) (by kernel_rfl) k n
@[go_sem] theorem Try.cv84_12 (k : IntKind) (n : Int) : convV Try.prog 84 12 (.int k n) = some (.int .u64 (IntKind.wrap .u64 n)) := conv_int (P := Try.prog) (s := 84) (d := 12) (by kernel_rfl) (by kernel_rfl) k n
@[go_sem] theorem Try.cv84_21 (k : IntKind) (n : Int) : convV Try.prog 84 21 (.int k n) = some (.int .i32 (IntKind.wrap .i32 n)) := conv_int (P := Try.prog) (s := 84) (d := 21) (by kernel_rfl) (by kernel_rfl) k n
@[go_sem] theorem Try.cv84_82 (k : IntKind) (n : Int) : convV Try.prog 84 82 (.int k n) = some (.int .u32 (IntKind.wrap .u32 n)) := conv_int (P := Try.prog) (s := 84) (d := 82) (by kernel_rfl) (by kernel_rfl) k n
@[go_sem] theorem Try.cv84_83 (k : IntKind) (n : Int) : convV Try.prog 84 83 (.int k n) = some (.int .u8 (IntKind.wrap .u8 n)) := conv_int (P := Try.prog) (s := 84) (d := 83) (by kernel_rfl) (by kernel_rfl) k n
@[go_sem] theorem Try.cv84_87 (k : IntKind) (n : Int) : convV Try.prog 84 87 (.int k n) = some (.int .i32 (IntKind.wrap .i32 n)) := conv_int (P := Try.prog) (s := 84) (d := 87) (by kernel_rfl) (by kernel_rfl) k n
@[go_sem] theorem Try.cv84_88 (k : IntKind) (n : Int) : convV Try.prog 84 88 (.int k n) = some (.int .i32 (IntKind.wrap .i32 n)) := conv_int (P := Try.prog) (s := 84) (d := 88) (by kernel_rfl) (by kernel_rfl) k n
@[go_sem] theorem Try.cv87_2 (k : IntKind) (n : Int) : convV Try.prog 87 2 (.int k n) = some (.int .i64 (IntKind.wrap .i64 n)) := conv_int (P := Try.prog) (s := 87) (d := 2) (by kernel_rfl) (by kernel_rfl) k n
@[go_sem] theorem Try.cv87_3 (k : IntKind) (n : Int) : convV Try.prog 87 3 (.int k n) = some (.int .i64 (IntKind.wrap .i64 n)) := conv_int (P := Try.prog) (s := 87) (d := 3) (by kernel_rfl) (by kernel_rfl) k n
@[go_sem] theorem Try.cv87_5 (k : IntKind) (n : Int) : convV Try.prog 87 5 (.int k n) = some (.int .u8 (IntKind.wrap .u8 n)) := conv_int (P := Try.prog) (s := 87) (d := 5) (by kernel_rfl) (by kernel_rfl) k n
@[go_sem] theorem Try.cv87_6 (k : IntKind) (n : Int) : convV Try.prog 87 6 (.int k n) = some (.int .u8 (IntKind.wrap .u8 n)) := conv_int (P := Try.prog) (s := 87) (d := 6) (by kernel_rfl) (by kernel_rfl) k n
@[go_sem] theorem Try.cv87_12 (k : IntKind) (n : Int) : convV Try.prog 87 12 (.int k n) = some (.int .u64 (IntKind.wrap .u64 n)) := conv_int (P := Try.prog) (s := 87) (d := 12) (by kernel_rfl) (by kernel_rfl) k n
@[go_sem] theorem Try.cv87_21 (k : IntKind) (n : Int) : convV Try.prog 87 21 (.int k n) = some (.int .i32 (IntKind.wrap .i32 n)) := conv_int (P := Try.prog) (s := 87) (d := 21) (by kernel_rfl) (by kernel_rfl) k n
@[go_sem] theorem Try.cv87_82 (k : IntKind) (n : Int) : convV Try.prog 87 82 (.int k n) = some (.int .u32 (IntKind.wrap .u32 n)) := conv_int (P := Try.prog) (s := 87) (d := 82) (by kernel_rfl) (by kernel_rfl) k n
@[go_sem] theorem Try.cv87_83 (k : IntKind) (n : Int) : convV Try.prog 87 83 (.int k n) = some (.int .u8 (IntKind.wrap .u8 n)) := conv_int (P := Try.prog) (s := 87) (d := 83) (by kernel_rfl) (by kernel_rfl) k n
@[go_sem] theorem Try.cv87_84 (k : IntKind) (n : Int) : convV Try.prog 87 84 (.int k n) = some (.int .u8 (IntKind.wrap .u8 n)) := conv_int (P := Try.prog) (s := 87) (d := 84) (by kernel_rfl) (by kernel_rfl) k n
@[go_sem] theorem Try.cv87_88 (k : IntKind) (n : Int) : convV Try.prog 87 88 (.int k n) = some (.int .i32 (IntKind.wrap .i32 n)) := conv_int (P := Try.prog) (s := 87) (d := 88) (by kernel_rfl) (by kernel_rfl) k n
@[go_sem] theorem Try.cv88_2 (k : IntKind) (n : Int) : convV Try.prog 88 2 (.int k n) = some (.int .i64 (IntKind.wrap .i64 n)) := conv_int (P := Try.prog) (s := 88) (d := 2) (by kernel_rfl) (by kernel_rfl) k n
@[go_sem] theorem Try.cv88_3 (k : IntKind) (n : Int) : convV Try.prog 88 3 (.int k n) = some (.int .i64 (IntKind.wrap .i64 n)) := conv_int (P := Try.prog) (s := 88) (d := 3) (by kernel_rfl) (by kernel_rfl) k n
@[go_sem] theorem Try.cv88_5 (k : IntKind) (n : Int) : convV Try.prog 88 5 (.int k n) = some (.int .u8 (IntKind.wrap .u8 n)) := conv_int (P := Try.prog) (s := 88) (d := 5) (by kernel_rfl) (by kernel_rfl) k n
@[go_sem] theorem Try.cv88_6 (k : IntKind) (n : Int) : convV Try.prog 88 6 (.int k n) = some (.int .u8 (IntKind.wrap .u8 n)) := conv_int (P := Try.prog) (s := 88) (d := 6) (by kernel_rfl) (by kernel_rfl) k n
@[go_sem] theorem Try.cv88_12 (k : IntKind) (n : Int) : convV Try.prog 88 12 (.int k n) = some (.int .u64 (IntKind.wrap .u64 n)) := conv_int (P := Try.prog) (s := 88) (d := 12) (by kernel_rfl) (by kernel_rfl) k n
@[go_sem] theorem Try.cv88_21 (k : IntKind) (n : Int) : convV Try.prog 88 21 (.int k n) = some (.int .i32 (IntKind.wrap .i32 n)) := conv_int (P := Try.prog) (s := 88) (d := 21) (by kernel_rfl) (by kernel_rfl) k n
@[go_sem] theorem Try.cv88_82 (k : IntKind) (n : Int) : convV Try.prog 88 82 (.int k n) = some (.int .u32 (IntKind.wrap .u32 n)) := conv_int (P := Try.prog) (s := 88) (d := 82) (by kernel_rfl) (by kernel_rfl) k n
@[go_sem] theorem Try.cv88_83 (k : IntKind) (n : Int) : convV Try.prog 88 83 (.int k n) = some (.int .u8 (IntKind.wrap .u8 n)) := conv_int (P := Try.prog) (s := 88) (d := 83) (by kernel_rfl) (by kernel_rfl) k n
@[go_sem] theorem Try.cv88_84 (k : IntKind) (n : Int) : convV Try.prog 88 84 (.int k n) = some (.int .u8 (IntKind.wrap .u8 n)) := conv_int (P := Try.prog) (s := 88) (d := 84) (by kernel_rfl) (by kernel_rfl) k n
@[go_sem] theorem Try.cv88_87 (k : IntKind) (n : Int) : convV Try.prog 88 87 (.int k n) = some (.int .i32 (IntKind.wrap .i32 n)) := conv_int (P := Try.prog) (s := 88) (d := 87) (by kernel_rfl) (by kernel_rfl) k n
end Go.Hs
end
