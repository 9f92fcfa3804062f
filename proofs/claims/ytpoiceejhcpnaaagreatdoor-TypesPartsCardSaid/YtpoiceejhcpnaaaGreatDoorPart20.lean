/- Part 20 of the proof of a statement of seat YtpoiceejhcpnaaaGreatDoor: HsFactsE. -/
import Derived.Test.YtpoiceejhcpnaaaGreatDoorProg
import Derived.Test.YtpoiceejhcpnaaaGreatDoorPart19
import Derived.KernelRfl
set_option linter.unusedSimpArgs false
set_option linter.unusedVariables false
section
/- Facts about the seat's types, for the library Hs: written by a program (genfacts.py). -/
namespace Go.Hs
open Go.Proofs
theorem Tryz.shape1 : shapeOf Tryz.prog 1 = some (false, 1) := by kernel_rfl
@[go_sem] theorem Tryz.load1 (H : Heap) (a : V) : readV Tryz.prog H 1 a = loadK (some (false, 1)) (obOf H a) a := readV_K Tryz.shape1 H a
@[go_sem] theorem Tryz.sz1 : szOf Tryz.prog 1 = some 1 := by kernel_rfl
@[go_sem] theorem Tryz.bytes1 : bytesV Tryz.prog 1 = some 8 := by kernel_rfl
@[go_sem] theorem Tryz.agg1 : isAggB Tryz.prog 1 = some false := by kernel_rfl
@[go_sem] theorem Tryz.zero1 : zeroC Tryz.prog 1 = some [.nilf] := by kernel_rfl
theorem Tryz.nk1 : nilKind Tryz.prog 1 = 3 := by kernel_rfl
@[go_sem] theorem Tryz.eqn1 (a : V) : binV Tryz.prog .eql 1 a .nilf = (nilK 3 a).map .bool := (binV_nil _ _ Tryz.nk1 (by simp) a).1
@[go_sem] theorem Tryz.nen1 (a : V) : binV Tryz.prog .neq 1 a .nilf = (nilK 3 a).map fun r => .bool (!r) := (binV_nil _ _ Tryz.nk1 (by simp) a).2
theorem Tryz.shape2 : shapeOf Tryz.prog 2 = some (false, 1) := by kernel_rfl
@[go_sem] theorem Tryz.load2 (H : Heap) (a : V) : readV Tryz.prog H 2 a = loadK (some (false, 1)) (obOf H a) a := readV_K Tryz.shape2 H a
@[go_sem] theorem Tryz.sz2 : szOf Tryz.prog 2 = some 1 := by kernel_rfl
@[go_sem] theorem Tryz.bytes2 : bytesV Tryz.prog 2 = some 8 := by kernel_rfl
@[go_sem] theorem Tryz.agg2 : isAggB Tryz.prog 2 = some false := by kernel_rfl
@[go_sem] theorem Tryz.zero2 : zeroC Tryz.prog 2 = some [.int .i64 0] := by kernel_rfl
theorem Tryz.shape3 : shapeOf Tryz.prog 3 = some (false, 1) := by kernel_rfl
@[go_sem] theorem Tryz.load3 (H : Heap) (a : V) : readV Tryz.prog H 3 a = loadK (some (false, 1)) (obOf H a) a := readV_K Tryz.shape3 H a
@[go_sem] theorem Tryz.sz3 : szOf Tryz.prog 3 = some 1 := by kernel_rfl
@[go_sem] theorem Tryz.bytes3 : bytesV Tryz.prog 3 = some 8 := by kernel_rfl
@[go_sem] theorem Tryz.agg3 : isAggB Tryz.prog 3 = some false := by kernel_rfl
@[go_sem] theorem Tryz.zero3 : zeroC Tryz.prog 3 = some [.int .i64 0] := by kernel_rfl
theorem Tryz.shape4 : shapeOf Tryz.prog 4 = some (false, 1) := by kernel_rfl
@[go_sem] theorem Tryz.load4 (H : Heap) (a : V) : readV Tryz.prog H 4 a = loadK (some (false, 1)) (obOf H a) a := readV_K Tryz.shape4 H a
@[go_sem] theorem Tryz.sz4 : szOf Tryz.prog 4 = some 1 := by kernel_rfl
@[go_sem] theorem Tryz.bytes4 : bytesV Tryz.prog 4 = some 1 := by kernel_rfl
@[go_sem] theorem Tryz.agg4 : isAggB Tryz.prog 4 = some false := by kernel_rfl
@[go_sem] theorem Tryz.zero4 : zeroC Tryz.prog 4 = some [.bool false] := by kernel_rfl
@[go_sem] theorem Tryz.eqb4 (a b : Bool) : binV Tryz.prog .eql 4 (.bool a) (.bool b) = some (.bool (a == b)) := (binV_bool (P := Tryz.prog) (by kernel_rfl) a b).1
@[go_sem] theorem Tryz.neb4 (a b : Bool) : binV Tryz.prog .neq 4 (.bool a) (.bool b) = some (.bool (a != b)) := (binV_bool (P := Tryz.prog) (by kernel_rfl) a b).2
theorem Tryz.shape5 : shapeOf Tryz.prog 5 = some (false, 1) := by kernel_rfl
@[go_sem] theorem Tryz.load5 (H : Heap) (a : V) : readV Tryz.prog H 5 a = loadK (some (false, 1)) (obOf H a) a := readV_K Tryz.shape5 H a
@[go_sem] theorem Tryz.sz5 : szOf Tryz.prog 5 = some 1 := by kernel_rfl
@[go_sem] theorem Tryz.bytes5 : bytesV Tryz.prog 5 = some 1 := by kernel_rfl
@[go_sem] theorem Tryz.agg5 : isAggB Tryz.prog 5 = some false := by kernel_rfl
@[go_sem] theorem Tryz.zero5 : zeroC Tryz.prog 5 = some [.int .u8 0] := by kernel_rfl
theorem Tryz.shape9 : shapeOf Tryz.prog 9 = some (false, 1) := by kernel_rfl
@[go_sem] theorem Tryz.load9 (H : Heap) (a : V) : readV Tryz.prog H 9 a = loadK (some (false, 1)) (obOf H a) a := readV_K Tryz.shape9 H a
@[go_sem] theorem Tryz.sz9 : szOf Tryz.prog 9 = some 1 := by kernel_rfl
@[go_sem] theorem Tryz.bytes9 : bytesV Tryz.prog 9 = some 16 := by kernel_rfl
@[go_sem] theorem Tryz.agg9 : isAggB Tryz.prog 9 = some false := by kernel_rfl
@[go_sem] theorem Tryz.zero9 : zeroC Tryz.prog 9 = some [.str []] := by kernel_rfl
theorem Tryz.str9 : isStr Tryz.prog 9 = true := by kernel_rfl
@[go_sem] theorem Tryz.len9 (a : V) : lenV Tryz.prog 9 a = lenK false a := lenV_str Tryz.str9 a
@[go_sem] theorem Tryz.ixs9 (s : List UInt8) (k : IntKind) (n : Int) : indexV Tryz.prog 9 (.str s) (.int k n) = if 0 ≤ n then (s[n.toNat]?).map fun b => .int .u8 b.toNat else none := indexV_str Tryz.str9 s k n
@[go_sem] theorem Tryz.sls9 (s : List UInt8) (lo hi : Option V) : sliceV Tryz.prog 9 (.str s) lo hi none = slJ (boundV 0 lo) (boundV s.length hi) fun i j => if i ≤ j ∧ j ≤ s.length then some (.str ((s.drop i).take (j - i))) else none := sliceV_str Tryz.str9 s lo hi
theorem Tryz.shape14 : shapeOf Tryz.prog 14 = some (true, 2) := by kernel_rfl
@[go_sem] theorem Tryz.load14 (H : Heap) (a : V) : readV Tryz.prog H 14 a = loadK (some (true, 2)) (obOf H a) a := readV_K Tryz.shape14 H a
@[go_sem] theorem Tryz.sz14 : szOf Tryz.prog 14 = some 2 := by kernel_rfl
@[go_sem] theorem Tryz.bytes14 : bytesV Tryz.prog 14 = some 24 := by kernel_rfl
@[go_sem] theorem Tryz.agg14 : isAggB Tryz.prog 14 = some true := by kernel_rfl
@[go_sem] theorem Tryz.zero14 : zeroC Tryz.prog 14 = some [.str [], .int .u64 0] := by kernel_rfl
theorem Tryz.zeroV14 : zeroV Tryz.prog 14 = some (.agg [.str [], .int .u64 0]) := by kernel_rfl
@[go_sem] theorem Tryz.bld14 (l : List (Nat × V)) : buildV Tryz.prog 14 l = (fillV (tblP [(0, 1), (1, 1)]) [.str [], .int .u64 0] l).map .agg := buildV_K (P := Tryz.prog) (t := 14) (tbl := [(0, 1), (1, 1)]) (z := [.str [], .int .u64 0]) (by kernel_rfl) (by kernel_rfl) l
theorem Tryz.fld14_0 : fldOf Tryz.prog 14 0 = some (0, false, 1) := by kernel_rfl
@[go_sem] theorem Tryz.fa14_0 (a : V) : fieldAddrV Tryz.prog 14 a 0 = fldK (some (0, false, 1)) a := fieldAddrV_K Tryz.fld14_0 a
@[go_sem] theorem Tryz.fv14_0 (l : List V) : fieldV Tryz.prog 14 (.agg l) 0 = partC false 1 l 0 := fieldV_K Tryz.fld14_0 l
theorem Tryz.fld14_1 : fldOf Tryz.prog 14 1 = some (1, false, 1) := by kernel_rfl
@[go_sem] theorem Tryz.fa14_1 (a : V) : fieldAddrV Tryz.prog 14 a 1 = fldK (some (1, false, 1)) a := fieldAddrV_K Tryz.fld14_1 a
@[go_sem] theorem Tryz.fv14_1 (l : List V) : fieldV Tryz.prog 14 (.agg l) 1 = partC false 1 l 1 := fieldV_K Tryz.fld14_1 l
theorem Tryz.shape20 : shapeOf Tryz.prog 20 = some (false, 1) := by kernel_rfl
@[go_sem] theorem Tryz.load20 (H : Heap) (a : V) : readV Tryz.prog H 20 a = loadK (some (false, 1)) (obOf H a) a := readV_K Tryz.shape20 H a
@[go_sem] theorem Tryz.sz20 : szOf Tryz.prog 20 = some 1 := by kernel_rfl
@[go_sem] theorem Tryz.bytes20 : bytesV Tryz.prog 20 = some 16 := by kernel_rfl
@[go_sem] theorem Tryz.agg20 : isAggB Tryz.prog 20 = some false := by kernel_rfl
@[go_sem] theorem Tryz.zero20 : zeroC Tryz.prog 20 = some [.nili] := by kernel_rfl
theorem Tryz.nk20 : nilKind Tryz.prog 20 = 4 := by kernel_rfl
@[go_sem] theorem Tryz.eqn20 (a : V) : binV Tryz.prog .eql 20 a .nili = (nilK 4 a).map .bool := (binV_nil _ _ Tryz.nk20 (by simp) a).1
@[go_sem] theorem Tryz.nen20 (a : V) : binV Tryz.prog .neq 20 a .nili = (nilK 4 a).map fun r => .bool (!r) := (binV_nil _ _ Tryz.nk20 (by simp) a).2
theorem Tryz.shape21 : shapeOf Tryz.prog 21 = some (false, 1) := by kernel_rfl
@[go_sem] theorem Tryz.load21 (H : Heap) (a : V) : readV Tryz.prog H 21 a = loadK (some (false, 1)) (obOf H a) a := readV_K Tryz.shape21 H a
@[go_sem] theorem Tryz.sz21 : szOf Tryz.prog 21 = some 1 := by kernel_rfl
@[go_sem] theorem Tryz.bytes21 : bytesV Tryz.prog 21 = some 4 := by kernel_rfl
@[go_sem] theorem Tryz.agg21 : isAggB Tryz.prog 21 = some false := by kernel_rfl
@[go_sem] theorem Tryz.zero21 : zeroC Tryz.prog 21 = some [.int .i32 0] := by kernel_rfl
theorem Tryz.shape22 : shapeOf Tryz.prog 22 = some (false, 1) := by kernel_rfl
@[go_sem] theorem Tryz.load22 (H : Heap) (a : V) : readV Tryz.prog H 22 a = loadK (some (false, 1)) (obOf H a) a := readV_K Tryz.shape22 H a
@[go_sem] theorem Tryz.sz22 : szOf Tryz.prog 22 = some 1 := by kernel_rfl
@[go_sem] theorem Tryz.bytes22 : bytesV Tryz.prog 22 = some 24 := by kernel_rfl
@[go_sem] theorem Tryz.agg22 : isAggB Tryz.prog 22 = some false := by kernel_rfl
@[go_sem] theorem Tryz.zero22 : zeroC Tryz.prog 22 = some [.nils] := by kernel_rfl
theorem Tryz.nk22 : nilKind Tryz.prog 22 = 2 := by kernel_rfl
@[go_sem] theorem Tryz.eqn22 (a : V) : binV Tryz.prog .eql 22 a .nils = (nilK 2 a).map .bool := (binV_nil _ _ Tryz.nk22 (by simp) a).1
@[go_sem] theorem Tryz.nen22 (a : V) : binV Tryz.prog .neq 22 a .nils = (nilK 2 a).map fun r => .bool (!r) := (binV_nil _ _ Tryz.nk22 (by simp) a).2
theorem Tryz.elem22 : elemOf Tryz.prog 22 = some 6 := by kernel_rfl
@[go_sem] theorem Tryz.idx22 (a i : V) : indexAddrV Tryz.prog 22 a i = idxK (some 6) a i := indexAddrV_K Tryz.elem22 a i
@[go_sem] theorem Tryz.len22 (a : V) : lenV Tryz.prog 22 a = lenK true a := lenV_slice Tryz.elem22 a
@[go_sem] theorem Tryz.sl22 (a : V) (lo hi : Option V) : sliceV Tryz.prog 22 a lo hi none = slK 6 a lo hi := sliceV_K Tryz.elem22 a lo hi
@[go_sem] theorem Tryz.bs22 (n : Nat) (l : List (Nat × V)) : bsCells Tryz.prog 22 n l = bsK 6 [.int .u8 0, .int .i64 0, .str [], .int .i64 0, .int .i64 0, .int .i64 0] n l := bsCells_K (P := Tryz.prog) (t := 22) (e := 41) (m := 6) (z := [.int .u8 0, .int .i64 0, .str [], .int .i64 0, .int .i64 0, .int .i64 0]) (by kernel_rfl) (by kernel_rfl) (by kernel_rfl) rfl n l
@[go_sem] theorem Tryz.ms22 (a b : V) : msCells Tryz.prog 22 a b = msK 6 56 [.int .u8 0, .int .i64 0, .str [], .int .i64 0, .int .i64 0, .int .i64 0] a b := msCells_K (P := Tryz.prog) (t := 22) (e := 41) (E := 6) (bytes := 56) (z := [.int .u8 0, .int .i64 0, .str [], .int .i64 0, .int .i64 0, .int .i64 0]) (by kernel_rfl) (by kernel_rfl) (by kernel_rfl) (by kernel_rfl) rfl a b
theorem Tryz.app22 : appOf Tryz.prog [22, 22] = some (6, 56) := by kernel_rfl
@[go_sem] theorem Tryz.appc22 (E : Ent) (ops : Array Oper) (Q : AS → Prop) (rest : List Oper) (e : Nat) (τ : Nat → V) (H : Heap) (a b : V) : appC Tryz.prog E ops Q rest e τ H [22, 22] a b = appE Tryz.prog E ops Q rest e τ H 6 56 a (srcCells H 6 b) (obS H a) := appC_E ops Tryz.app22 e a b
theorem Tryz.shape24 : shapeOf Tryz.prog 24 = some (true, 1) := by kernel_rfl
@[go_sem] theorem Tryz.load24 (H : Heap) (a : V) : readV Tryz.prog H 24 a = loadK (some (true, 1)) (obOf H a) a := readV_K Tryz.shape24 H a
@[go_sem] theorem Tryz.sz24 : szOf Tryz.prog 24 = some 1 := by kernel_rfl
@[go_sem] theorem Tryz.bytes24 : bytesV Tryz.prog 24 = some 24 := by kernel_rfl
@[go_sem] theorem Tryz.agg24 : isAggB Tryz.prog 24 = some true := by kernel_rfl
@[go_sem] theorem Tryz.zero24 : zeroC Tryz.prog 24 = some [.nils] := by kernel_rfl
theorem Tryz.zeroV24 : zeroV Tryz.prog 24 = some (.agg [.nils]) := by kernel_rfl
@[go_sem] theorem Tryz.bld24 (l : List (Nat × V)) : buildV Tryz.prog 24 l = (fillV (tblP [(0, 1)]) [.nils] l).map .agg := buildV_K (P := Tryz.prog) (t := 24) (tbl := [(0, 1)]) (z := [.nils]) (by kernel_rfl) (by kernel_rfl) l
theorem Tryz.fld24_0 : fldOf Tryz.prog 24 0 = some (0, false, 1) := by kernel_rfl
@[go_sem] theorem Tryz.fa24_0 (a : V) : fieldAddrV Tryz.prog 24 a 0 = fldK (some (0, false, 1)) a := fieldAddrV_K Tryz.fld24_0 a
@[go_sem] theorem Tryz.fv24_0 (l : List V) : fieldV Tryz.prog 24 (.agg l) 0 = partC false 1 l 0 := fieldV_K Tryz.fld24_0 l
theorem Tryz.shape25 : shapeOf Tryz.prog 25 = some (false, 1) := by kernel_rfl
@[go_sem] theorem Tryz.load25 (H : Heap) (a : V) : readV Tryz.prog H 25 a = loadK (some (false, 1)) (obOf H a) a := readV_K Tryz.shape25 H a
@[go_sem] theorem Tryz.sz25 : szOf Tryz.prog 25 = some 1 := by kernel_rfl
@[go_sem] theorem Tryz.bytes25 : bytesV Tryz.prog 25 = some 24 := by kernel_rfl
@[go_sem] theorem Tryz.agg25 : isAggB Tryz.prog 25 = some false := by kernel_rfl
@[go_sem] theorem Tryz.zero25 : zeroC Tryz.prog 25 = some [.nils] := by kernel_rfl
theorem Tryz.nk25 : nilKind Tryz.prog 25 = 2 := by kernel_rfl
@[go_sem] theorem Tryz.eqn25 (a : V) : binV Tryz.prog .eql 25 a .nils = (nilK 2 a).map .bool := (binV_nil _ _ Tryz.nk25 (by simp) a).1
@[go_sem] theorem Tryz.nen25 (a : V) : binV Tryz.prog .neq 25 a .nils = (nilK 2 a).map fun r => .bool (!r) := (binV_nil _ _ Tryz.nk25 (by simp) a).2
theorem Tryz.elem25 : elemOf Tryz.prog 25 = some 1 := by kernel_rfl
@[go_sem] theorem Tryz.idx25 (a i : V) : indexAddrV Tryz.prog 25 a i = idxK (some 1) a i := indexAddrV_K Tryz.elem25 a i
@[go_sem] theorem Tryz.len25 (a : V) : lenV Tryz.prog 25 a = lenK true a := lenV_slice Tryz.elem25 a
@[go_sem] theorem Tryz.sl25 (a : V) (lo hi : Option V) : sliceV Tryz.prog 25 a lo hi none = slK 1 a lo hi := sliceV_K Tryz.elem25 a lo hi
@[go_sem] theorem Tryz.bs25 (n : Nat) (l : List (Nat × V)) : bsCells Tryz.prog 25 n l = bsK 1 [.str []] n l := bsCells_K (P := Tryz.prog) (t := 25) (e := 9) (m := 1) (z := [.str []]) (by kernel_rfl) (by kernel_rfl) (by kernel_rfl) rfl n l
@[go_sem] theorem Tryz.ms25 (a b : V) : msCells Tryz.prog 25 a b = msK 1 16 [.str []] a b := msCells_K (P := Tryz.prog) (t := 25) (e := 9) (E := 1) (bytes := 16) (z := [.str []]) (by kernel_rfl) (by kernel_rfl) (by kernel_rfl) (by kernel_rfl) rfl a b
theorem Tryz.app25 : appOf Tryz.prog [25, 25] = some (1, 16) := by kernel_rfl
@[go_sem] theorem Tryz.appc25 (E : Ent) (ops : Array Oper) (Q : AS → Prop) (rest : List Oper) (e : Nat) (τ : Nat → V) (H : Heap) (a b : V) : appC Tryz.prog E ops Q rest e τ H [25, 25] a b = appE Tryz.prog E ops Q rest e τ H 1 16 a (srcCells H 1 b) (obS H a) := appC_E ops Tryz.app25 e a b
theorem Tryz.shape28 : shapeOf Tryz.prog 28 = some (false, 1) := by kernel_rfl
@[go_sem] theorem Tryz.load28 (H : Heap) (a : V) : readV Tryz.prog H 28 a = loadK (some (false, 1)) (obOf H a) a := readV_K Tryz.shape28 H a
@[go_sem] theorem Tryz.sz28 : szOf Tryz.prog 28 = some 1 := by kernel_rfl
@[go_sem] theorem Tryz.bytes28 : bytesV Tryz.prog 28 = some 24 := by kernel_rfl
@[go_sem] theorem Tryz.agg28 : isAggB Tryz.prog 28 = some false := by kernel_rfl
@[go_sem] theorem Tryz.zero28 : zeroC Tryz.prog 28 = some [.nils] := by kernel_rfl
theorem Tryz.nk28 : nilKind Tryz.prog 28 = 2 := by kernel_rfl
@[go_sem] theorem Tryz.eqn28 (a : V) : binV Tryz.prog .eql 28 a .nils = (nilK 2 a).map .bool := (binV_nil _ _ Tryz.nk28 (by simp) a).1
@[go_sem] theorem Tryz.nen28 (a : V) : binV Tryz.prog .neq 28 a .nils = (nilK 2 a).map fun r => .bool (!r) := (binV_nil _ _ Tryz.nk28 (by simp) a).2
theorem Tryz.elem28 : elemOf Tryz.prog 28 = some 1 := by kernel_rfl
@[go_sem] theorem Tryz.idx28 (a i : V) : indexAddrV Tryz.prog 28 a i = idxK (some 1) a i := indexAddrV_K Tryz.elem28 a i
@[go_sem] theorem Tryz.len28 (a : V) : lenV Tryz.prog 28 a = lenK true a := lenV_slice Tryz.elem28 a
@[go_sem] theorem Tryz.sl28 (a : V) (lo hi : Option V) : sliceV Tryz.prog 28 a lo hi none = slK 1 a lo hi := sliceV_K Tryz.elem28 a lo hi
@[go_sem] theorem Tryz.bs28 (n : Nat) (l : List (Nat × V)) : bsCells Tryz.prog 28 n l = bsK 1 [.int .u8 0] n l := bsCells_K (P := Tryz.prog) (t := 28) (e := 5) (m := 1) (z := [.int .u8 0]) (by kernel_rfl) (by kernel_rfl) (by kernel_rfl) rfl n l
@[go_sem] theorem Tryz.ms28 (a b : V) : msCells Tryz.prog 28 a b = msK 1 1 [.int .u8 0] a b := msCells_K (P := Tryz.prog) (t := 28) (e := 5) (E := 1) (bytes := 1) (z := [.int .u8 0]) (by kernel_rfl) (by kernel_rfl) (by kernel_rfl) (by kernel_rfl) rfl a b
theorem Tryz.app28 : appOf Tryz.prog [28, 28] = some (1, 1) := by kernel_rfl
@[go_sem] theorem Tryz.appc28 (E : Ent) (ops : Array Oper) (Q : AS → Prop) (rest : List Oper) (e : Nat) (τ : Nat → V) (H : Heap) (a b : V) : appC Tryz.prog E ops Q rest e τ H [28, 28] a b = appE Tryz.prog E ops Q rest e τ H 1 1 a (srcCells H 1 b) (obS H a) := appC_E ops Tryz.app28 e a b
theorem Tryz.shape29 : shapeOf Tryz.prog 29 = some (false, 1) := by kernel_rfl
@[go_sem] theorem Tryz.load29 (H : Heap) (a : V) : readV Tryz.prog H 29 a = loadK (some (false, 1)) (obOf H a) a := readV_K Tryz.shape29 H a
@[go_sem] theorem Tryz.sz29 : szOf Tryz.prog 29 = some 1 := by kernel_rfl
@[go_sem] theorem Tryz.bytes29 : bytesV Tryz.prog 29 = some 8 := by kernel_rfl
@[go_sem] theorem Tryz.agg29 : isAggB Tryz.prog 29 = some false := by kernel_rfl
@[go_sem] theorem Tryz.zero29 : zeroC Tryz.prog 29 = some [.int .i64 0] := by kernel_rfl
theorem Tryz.shape32 : shapeOf Tryz.prog 32 = some (false, 1) := by kernel_rfl
@[go_sem] theorem Tryz.load32 (H : Heap) (a : V) : readV Tryz.prog H 32 a = loadK (some (false, 1)) (obOf H a) a := readV_K Tryz.shape32 H a
@[go_sem] theorem Tryz.sz32 : szOf Tryz.prog 32 = some 1 := by kernel_rfl
@[go_sem] theorem Tryz.bytes32 : bytesV Tryz.prog 32 = some 24 := by kernel_rfl
@[go_sem] theorem Tryz.agg32 : isAggB Tryz.prog 32 = some false := by kernel_rfl
@[go_sem] theorem Tryz.zero32 : zeroC Tryz.prog 32 = some [.nils] := by kernel_rfl
theorem Tryz.nk32 : nilKind Tryz.prog 32 = 2 := by kernel_rfl
@[go_sem] theorem Tryz.eqn32 (a : V) : binV Tryz.prog .eql 32 a .nils = (nilK 2 a).map .bool := (binV_nil _ _ Tryz.nk32 (by simp) a).1
@[go_sem] theorem Tryz.nen32 (a : V) : binV Tryz.prog .neq 32 a .nils = (nilK 2 a).map fun r => .bool (!r) := (binV_nil _ _ Tryz.nk32 (by simp) a).2
theorem Tryz.elem32 : elemOf Tryz.prog 32 = some 6 := by kernel_rfl
@[go_sem] theorem Tryz.idx32 (a i : V) : indexAddrV Tryz.prog 32 a i = idxK (some 6) a i := indexAddrV_K Tryz.elem32 a i
@[go_sem] theorem Tryz.len32 (a : V) : lenV Tryz.prog 32 a = lenK true a := lenV_slice Tryz.elem32 a
@[go_sem] theorem Tryz.sl32 (a : V) (lo hi : Option V) : sliceV Tryz.prog 32 a lo hi none = slK 6 a lo hi := sliceV_K Tryz.elem32 a lo hi
@[go_sem] theorem Tryz.bs32 (n : Nat) (l : List (Nat × V)) : bsCells Tryz.prog 32 n l = bsK 6 [.int .u8 0, .int .i64 0, .str [], .int .i64 0, .int .i64 0, .int .i64 0] n l := bsCells_K (P := Tryz.prog) (t := 32) (e := 80) (m := 6) (z := [.int .u8 0, .int .i64 0, .str [], .int .i64 0, .int .i64 0, .int .i64 0]) (by kernel_rfl) (by kernel_rfl) (by kernel_rfl) rfl n l
@[go_sem] theorem Tryz.ms32 (a b : V) : msCells Tryz.prog 32 a b = msK 6 56 [.int .u8 0, .int .i64 0, .str [], .int .i64 0, .int .i64 0, .int .i64 0] a b := msCells_K (P := Tryz.prog) (t := 32) (e := 80) (E := 6) (bytes := 56) (z := [.int .u8 0, .int .i64 0, .str [], .int .i64 0, .int .i64 0, .int .i64 0]) (by kernel_rfl) (by kernel_rfl) (by kernel_rfl) (by kernel_rfl) rfl a b
theorem Tryz.app32 : appOf Tryz.prog [32, 32] = some (6, 56) := by kernel_rfl
@[go_sem] theorem Tryz.appc32 (E : Ent) (ops : Array Oper) (Q : AS → Prop) (rest : List Oper) (e : Nat) (τ : Nat → V) (H : Heap) (a b : V) : appC Tryz.prog E ops Q rest e τ H [32, 32] a b = appE Tryz.prog E ops Q rest e τ H 6 56 a (srcCells H 6 b) (obS H a) := appC_E ops Tryz.app32 e a b
theorem Tryz.shape41 : shapeOf Tryz.prog 41 = some (true, 6) := by kernel_rfl
@[go_sem] theorem Tryz.load41 (H : Heap) (a : V) : readV Tryz.prog H 41 a = loadK (some (true, 6)) (obOf H a) a := readV_K Tryz.shape41 H a
@[go_sem] theorem Tryz.sz41 : szOf Tryz.prog 41 = some 6 := by kernel_rfl
@[go_sem] theorem Tryz.bytes41 : bytesV Tryz.prog 41 = some 56 := by kernel_rfl
@[go_sem] theorem Tryz.agg41 : isAggB Tryz.prog 41 = some true := by kernel_rfl
@[go_sem] theorem Tryz.zero41 : zeroC Tryz.prog 41 = some [.int .u8 0, .int .i64 0, .str [], .int .i64 0, .int .i64 0, .int .i64 0] := by kernel_rfl
theorem Tryz.zeroV41 : zeroV Tryz.prog 41 = some (.agg [.int .u8 0, .int .i64 0, .str [], .int .i64 0, .int .i64 0, .int .i64 0]) := by kernel_rfl
@[go_sem] theorem Tryz.bld41 (l : List (Nat × V)) : buildV Tryz.prog 41 l = (fillV (tblP [(0, 1), (1, 1), (2, 1), (3, 1), (4, 1), (5, 1)]) [.int .u8 0, .int .i64 0, .str [], .int .i64 0, .int .i64 0, .int .i64 0] l).map .agg := buildV_K (P := Tryz.prog) (t := 41) (tbl := [(0, 1), (1, 1), (2, 1), (3, 1), (4, 1), (5, 1)]) (z := [.int .u8 0, .int .i64 0, .str [], .int .i64 0, .int .i64 0, .int .i64 0]) (by kernel_rfl) (by kernel_rfl) l
theorem Tryz.fld41_0 : fldOf Tryz.prog 41 0 = some (0, false, 1) := by kernel_rfl
@[go_sem] theorem Tryz.fa41_0 (a : V) : fieldAddrV Tryz.prog 41 a 0 = fldK (some (0, false, 1)) a := fieldAddrV_K Tryz.fld41_0 a
@[go_sem] theorem Tryz.fv41_0 (l : List V) : fieldV Tryz.prog 41 (.agg l) 0 = partC false 1 l 0 := fieldV_K Tryz.fld41_0 l
theorem Tryz.fld41_1 : fldOf Tryz.prog 41 1 = some (1, false, 1) := by kernel_rfl
@[go_sem] theorem Tryz.fa41_1 (a : V) : fieldAddrV Tryz.prog 41 a 1 = fldK (some (1, false, 1)) a := fieldAddrV_K Tryz.fld41_1 a
@[go_sem] theorem Tryz.fv41_1 (l : List V) : fieldV Tryz.prog 41 (.agg l) 1 = partC false 1 l 1 := fieldV_K Tryz.fld41_1 l
theorem Tryz.fld41_2 : fldOf Tryz.prog 41 2 = some (2, false, 1) := by kernel_rfl
@[go_sem] theorem Tryz.fa41_2 (a : V) : fieldAddrV Tryz.prog 41 a 2 = fldK (some (2, false, 1)) a := fieldAddrV_K Tryz.fld41_2 a
@[go_sem] theorem Tryz.fv41_2 (l : List V) : fieldV Tryz.prog 41 (.agg l) 2 = partC false 1 l 2 := fieldV_K Tryz.fld41_2 l
theorem Tryz.fld41_3 : fldOf Tryz.prog 41 3 = some (3, false, 1) := by kernel_rfl
@[go_sem] theorem Tryz.fa41_3 (a : V) : fieldAddrV Tryz.prog 41 a 3 = fldK (some (3, false, 1)) a := fieldAddrV_K Tryz.fld41_3 a
@[go_sem] theorem Tryz.fv41_3 (l : List V) : fieldV Tryz.prog 41 (.agg l) 3 = partC false 1 l 3 := fieldV_K Tryz.fld41_3 l
theorem Tryz.fld41_4 : fldOf Tryz.prog 41 4 = some (4, false, 1) := by kernel_rfl
@[go_sem] theorem Tryz.fa41_4 (a : V) : fieldAddrV Tryz.prog 41 a 4 = fldK (some (4, false, 1)) a := fieldAddrV_K Tryz.fld41_4 a
@[go_sem] theorem Tryz.fv41_4 (l : List V) : fieldV Tryz.prog 41 (.agg l) 4 = partC false 1 l 4 := fieldV_K Tryz.fld41_4 l
theorem Tryz.fld41_5 : fldOf Tryz.prog 41 5 = some (5, false, 1) := by kernel_rfl
@[go_sem] theorem Tryz.fa41_5 (a : V) : fieldAddrV Tryz.prog 41 a 5 = fldK (some (5, false, 1)) a := fieldAddrV_K Tryz.fld41_5 a
@[go_sem] theorem Tryz.fv41_5 (l : List V) : fieldV Tryz.prog 41 (.agg l) 5 = partC false 1 l 5 := fieldV_K Tryz.fld41_5 l
theorem Tryz.shape56 : shapeOf Tryz.prog 56 = some (false, 1) := by kernel_rfl
@[go_sem] theorem Tryz.load56 (H : Heap) (a : V) : readV Tryz.prog H 56 a = loadK (some (false, 1)) (obOf H a) a := readV_K Tryz.shape56 H a
@[go_sem] theorem Tryz.sz56 : szOf Tryz.prog 56 = some 1 := by kernel_rfl
@[go_sem] theorem Tryz.bytes56 : bytesV Tryz.prog 56 = some 8 := by kernel_rfl
@[go_sem] theorem Tryz.agg56 : isAggB Tryz.prog 56 = some false := by kernel_rfl
@[go_sem] theorem Tryz.zero56 : zeroC Tryz.prog 56 = some [.nilf] := by kernel_rfl
theorem Tryz.nk56 : nilKind Tryz.prog 56 = 3 := by kernel_rfl
@[go_sem] theorem Tryz.eqn56 (a : V) : binV Tryz.prog .eql 56 a .nilf = (nilK 3 a).map .bool := (binV_nil _ _ Tryz.nk56 (by simp) a).1
@[go_sem] theorem Tryz.nen56 (a : V) : binV Tryz.prog .neq 56 a .nilf = (nilK 3 a).map fun r => .bool (!r) := (binV_nil _ _ Tryz.nk56 (by simp) a).2
theorem Tryz.shape57 : shapeOf Tryz.prog 57 = some (false, 1) := by kernel_rfl
@[go_sem] theorem Tryz.load57 (H : Heap) (a : V) : readV Tryz.prog H 57 a = loadK (some (false, 1)) (obOf H a) a := readV_K Tryz.shape57 H a
@[go_sem] theorem Tryz.sz57 : szOf Tryz.prog 57 = some 1 := by kernel_rfl
@[go_sem] theorem Tryz.bytes57 : bytesV Tryz.prog 57 = some 24 := by kernel_rfl
@[go_sem] theorem Tryz.agg57 : isAggB Tryz.prog 57 = some false := by kernel_rfl
@[go_sem] theorem Tryz.zero57 : zeroC Tryz.prog 57 = some [.nils] := by kernel_rfl
theorem Tryz.nk57 : nilKind Tryz.prog 57 = 2 := by kernel_rfl
@[go_sem] theorem Tryz.eqn57 (a : V) : binV Tryz.prog .eql 57 a .nils = (nilK 2 a).map .bool := (binV_nil _ _ Tryz.nk57 (by simp) a).1
@[go_sem] theorem Tryz.nen57 (a : V) : binV Tryz.prog .neq 57 a .nils = (nilK 2 a).map fun r => .bool (!r) := (binV_nil _ _ Tryz.nk57 (by simp) a).2
theorem Tryz.elem57 : elemOf Tryz.prog 57 = some 3 := by kernel_rfl
@[go_sem] theorem Tryz.idx57 (a i : V) : indexAddrV Tryz.prog 57 a i = idxK (some 3) a i := indexAddrV_K Tryz.elem57 a i
@[go_sem] theorem Tryz.len57 (a : V) : lenV Tryz.prog 57 a = lenK true a := lenV_slice Tryz.elem57 a
@[go_sem] theorem Tryz.sl57 (a : V) (lo hi : Option V) : sliceV Tryz.prog 57 a lo hi none = slK 3 a lo hi := sliceV_K Tryz.elem57 a lo hi
@[go_sem] theorem Tryz.bs57 (n : Nat) (l : List (Nat × V)) : bsCells Tryz.prog 57 n l = bsK 3 [.int .u8 0, .str [], .int .i64 0] n l := bsCells_K (P := Tryz.prog) (t := 57) (e := 60) (m := 3) (z := [.int .u8 0, .str [], .int .i64 0]) (by kernel_rfl) (by kernel_rfl) (by kernel_rfl) rfl n l
@[go_sem] theorem Tryz.ms57 (a b : V) : msCells Tryz.prog 57 a b = msK 3 32 [.int .u8 0, .str [], .int .i64 0] a b := msCells_K (P := Tryz.prog) (t := 57) (e := 60) (E := 3) (bytes := 32) (z := [.int .u8 0, .str [], .int .i64 0]) (by kernel_rfl) (by kernel_rfl) (by kernel_rfl) (by kernel_rfl) rfl a b
theorem Tryz.app57 : appOf Tryz.prog [57, 57] = some (3, 32) := by kernel_rfl
@[go_sem] theorem Tryz.appc57 (E : Ent) (ops : Array Oper) (Q : AS → Prop) (rest : List Oper) (e : Nat) (τ : Nat → V) (H : Heap) (a b : V) : appC Tryz.prog E ops Q rest e τ H [57, 57] a b = appE Tryz.prog E ops Q rest e τ H 3 32 a (srcCells H 3 b) (obS H a) := appC_E ops Tryz.app57 e a b
theorem Tryz.shape60 : shapeOf Tryz.prog 60 = some (true, 3) := by kernel_rfl
@[go_sem] theorem Tryz.load60 (H : Heap) (a : V) : readV Tryz.prog H 60 a = loadK (some (true, 3)) (obOf H a) a := readV_K Tryz.shape60 H a
@[go_sem] theorem Tryz.sz60 : szOf Tryz.prog 60 = some 3 := by kernel_rfl
@[go_sem] theorem Tryz.bytes60 : bytesV Tryz.prog 60 = some 32 := by kernel_rfl
@[go_sem] theorem Tryz.agg60 : isAggB Tryz.prog 60 = some true := by kernel_rfl
@[go_sem] theorem Tryz.zero60 : zeroC Tryz.prog 60 = some [.int .u8 0, .str [], .int .i64 0] := by kernel_rfl
theorem Tryz.zeroV60 : zeroV Tryz.prog 60 = some (.agg [.int .u8 0, .str [], .int .i64 0]) := by kernel_rfl
@[go_sem] theorem Tryz.bld60 (l : List (Nat × V)) : buildV Tryz.prog 60 l = (fillV (tblP [(0, 1), (1, 1), (2, 1)]) [.int .u8 0, .str [], .int .i64 0] l).map .agg := buildV_K (P := Tryz.prog) (t := 60) (tbl := [(0, 1), (1, 1), (2, 1)]) (z := [.int .u8 0, .str [], .int .i64 0]) (by kernel_rfl) (by kernel_rfl) l
theorem Tryz.fld60_0 : fldOf Tryz.prog 60 0 = some (0, false, 1) := by kernel_rfl
@[go_sem] theorem Tryz.fa60_0 (a : V) : fieldAddrV Tryz.prog 60 a 0 = fldK (some (0, false, 1)) a := fieldAddrV_K Tryz.fld60_0 a
@[go_sem] theorem Tryz.fv60_0 (l : List V) : fieldV Tryz.prog 60 (.agg l) 0 = partC false 1 l 0 := fieldV_K Tryz.fld60_0 l
theorem Tryz.fld60_1 : fldOf Tryz.prog 60 1 = some (1, false, 1) := by kernel_rfl
@[go_sem] theorem Tryz.fa60_1 (a : V) : fieldAddrV Tryz.prog 60 a 1 = fldK (some (1, false, 1)) a := fieldAddrV_K Tryz.fld60_1 a
@[go_sem] theorem Tryz.fv60_1 (l : List V) : fieldV Tryz.prog 60 (.agg l) 1 = partC false 1 l 1 := fieldV_K Tryz.fld60_1 l
theorem Tryz.fld60_2 : fldOf Tryz.prog 60 2 = some (2, false, 1) := by kernel_rfl
@[go_sem] theorem Tryz.fa60_2 (a : V) : fieldAddrV Tryz.prog 60 a 2 = fldK (some (2, false, 1)) a := fieldAddrV_K Tryz.fld60_2 a
@[go_sem] theorem Tryz.fv60_2 (l : List V) : fieldV Tryz.prog 60 (.agg l) 2 = partC false 1 l 2 := fieldV_K Tryz.fld60_2 l
theorem Tryz.shape80 : shapeOf Tryz.prog 80 = some (true, 6) := by kernel_rfl
@[go_sem] theorem Tryz.load80 (H : Heap) (a : V) : readV Tryz.prog H 80 a = loadK (some (true, 6)) (obOf H a) a := readV_K Tryz.shape80 H a
@[go_sem] theorem Tryz.sz80 : szOf Tryz.prog 80 = some 6 := by kernel_rfl
@[go_sem] theorem Tryz.bytes80 : bytesV Tryz.prog 80 = some 56 := by kernel_rfl
@[go_sem] theorem Tryz.agg80 : isAggB Tryz.prog 80 = some true := by kernel_rfl
@[go_sem] theorem Tryz.zero80 : zeroC Tryz.prog 80 = some [.int .u8 0, .int .i64 0, .str [], .int .i64 0, .int .i64 0, .int .i64 0] := by kernel_rfl
theorem Tryz.zeroV80 : zeroV Tryz.prog 80 = some (.agg [.int .u8 0, .int .i64 0, .str [], .int .i64 0, .int .i64 0, .int .i64 0]) := by kernel_rfl
@[go_sem] theorem Tryz.bld80 (l : List (Nat × V)) : buildV Tryz.prog 80 l = (fillV (tblP [(0, 1), (1, 1), (2, 1), (3, 1), (4, 1), (5, 1)]) [.int .u8 0, .int .i64 0, .str [], .int .i64 0, .int .i64 0, .int .i64 0] l).map .agg := buildV_K (P := Tryz.prog) (t := 80) (tbl := [(0, 1), (1, 1), (2, 1), (3, 1), (4, 1), (5, 1)]) (z := [.int .u8 0, .int .i64 0, .str [], .int .i64 0, .int .i64 0, .int .i64 0]) (by kernel_rfl) (by kernel_rfl) l
theorem Tryz.fld80_0 : fldOf Tryz.prog 80 0 = some (0, false, 1) := by kernel_rfl
@[go_sem] theorem Tryz.fa80_0 (a : V) : fieldAddrV Tryz.prog 80 a 0 = fldK (some (0, false, 1)) a := fieldAddrV_K Tryz.fld80_0 a
@[go_sem] theorem Tryz.fv80_0 (l : List V) : fieldV Tryz.prog 80 (.agg l) 0 = partC false 1 l 0 := fieldV_K Tryz.fld80_0 l
theorem Tryz.fld80_1 : fldOf Tryz.prog 80 1 = some (1, false, 1) := by kernel_rfl
@[go_sem] theorem Tryz.fa80_1 (a : V) : fieldAddrV Tryz.prog 80 a 1 = fldK (some (1, false, 1)) a := fieldAddrV_K Tryz.fld80_1 a
@[go_sem] theorem Tryz.fv80_1 (l : List V) : fieldV Tryz.prog 80 (.agg l) 1 = partC false 1 l 1 := fieldV_K Tryz.fld80_1 l
theorem Tryz.fld80_2 : fldOf Tryz.prog 80 2 = some (2, false, 1) := by kernel_rfl
@[go_sem] theorem Tryz.fa80_2 (a : V) : fieldAddrV Tryz.prog 80 a 2 = fldK (some (2, false, 1)) a := fieldAddrV_K Tryz.fld80_2 a
@[go_sem] theorem Tryz.fv80_2 (l : List V) : fieldV Tryz.prog 80 (.agg l) 2 = partC false 1 l 2 := fieldV_K Tryz.fld80_2 l
theorem Tryz.fld80_3 : fldOf Tryz.prog 80 3 = some (3, false, 1) := by kernel_rfl
@[go_sem] theorem Tryz.fa80_3 (a : V) : fieldAddrV Tryz.prog 80 a 3 = fldK (some (3, false, 1)) a := fieldAddrV_K Tryz.fld80_3 a
@[go_sem] theorem Tryz.fv80_3 (l : List V) : fieldV Tryz.prog 80 (.agg l) 3 = partC false 1 l 3 := fieldV_K Tryz.fld80_3 l
theorem Tryz.fld80_4 : fldOf Tryz.prog 80 4 = some (4, false, 1) := by kernel_rfl
@[go_sem] theorem Tryz.fa80_4 (a : V) : fieldAddrV Tryz.prog 80 a 4 = fldK (some (4, false, 1)) a := fieldAddrV_K Tryz.fld80_4 a
@[go_sem] theorem Tryz.fv80_4 (l : List V) : fieldV Tryz.prog 80 (.agg l) 4 = partC false 1 l 4 := fieldV_K Tryz.fld80_4 l
theorem Tryz.fld80_5 : fldOf Tryz.prog 80 5 = some (5, false, 1) := by kernel_rfl
@[go_sem] theorem Tryz.fa80_5 (a : V) : fieldAddrV Tryz.prog 80 a 5 = fldK (some (5, false, 1)) a := fieldAddrV_K Tryz.fld80_5 a
@[go_sem] theorem Tryz.fv80_5 (l : List V) : fieldV Tryz.prog 80 (.agg l) 5 = partC false 1 l 5 := fieldV_K Tryz.fld80_5 l
theorem Tryz.shape82 : shapeOf Tryz.prog 82 = some (true, 3) := by kernel_rfl
@[go_sem] theorem Tryz.load82 (H : Heap) (a : V) : readV Tryz.prog H 82 a = loadK (some (true, 3)) (obOf H a) a := readV_K Tryz.shape82 H a
@[go_sem] theorem Tryz.sz82 : szOf Tryz.prog 82 = some 3 := by kernel_rfl
@[go_sem] theorem Tryz.bytes82 : bytesV Tryz.prog 82 = some 3 := by kernel_rfl
@[go_sem] theorem Tryz.agg82 : isAggB Tryz.prog 82 = some true := by kernel_rfl
@[go_sem] theorem Tryz.zero82 : zeroC Tryz.prog 82 = some [.int .u8 0, .int .u8 0, .int .u8 0] := by kernel_rfl
theorem Tryz.zeroV82 : zeroV Tryz.prog 82 = some (.agg [.int .u8 0, .int .u8 0, .int .u8 0]) := by kernel_rfl
@[go_sem] theorem Tryz.bld82 (l : List (Nat × V)) : buildV Tryz.prog 82 l = (fillV (tblP [(0, 1), (1, 1), (2, 1)]) [.int .u8 0, .int .u8 0, .int .u8 0] l).map .agg := buildV_K (P := Tryz.prog) (t := 82) (tbl := [(0, 1), (1, 1), (2, 1)]) (z := [.int .u8 0, .int .u8 0, .int .u8 0]) (by kernel_rfl) (by kernel_rfl) l
theorem Tryz.fld82_0 : fldOf Tryz.prog 82 0 = some (0, false, 1) := by kernel_rfl
@[go_sem] theorem Tryz.fa82_0 (a : V) : fieldAddrV Tryz.prog 82 a 0 = fldK (some (0, false, 1)) a := fieldAddrV_K Tryz.fld82_0 a
@[go_sem] theorem Tryz.fv82_0 (l : List V) : fieldV Tryz.prog 82 (.agg l) 0 = partC false 1 l 0 := fieldV_K Tryz.fld82_0 l
theorem Tryz.fld82_1 : fldOf Tryz.prog 82 1 = some (1, false, 1) := by kernel_rfl
@[go_sem] theorem Tryz.fa82_1 (a : V) : fieldAddrV Tryz.prog 82 a 1 = fldK (some (1, false, 1)) a := fieldAddrV_K Tryz.fld82_1 a
@[go_sem] theorem Tryz.fv82_1 (l : List V) : fieldV Tryz.prog 82 (.agg l) 1 = partC false 1 l 1 := fieldV_K Tryz.fld82_1 l
theorem Tryz.fld82_2 : fldOf Tryz.prog 82 2 = some (2, false, 1) := by kernel_rfl
@[go_sem] theorem Tryz.fa82_2 (a : V) : fieldAddrV Tryz.prog 82 a 2 = fldK (some (2, false, 1)) a := fieldAddrV_K Tryz.fld82_2 a
@[go_sem] theorem Tryz.fv82_2 (l : List V) : fieldV Tryz.prog 82 (.agg l) 2 = partC false 1 l 2 := fieldV_K Tryz.fld82_2 l
theorem Tryz.shape84 : shapeOf Tryz.prog 84 = some (true, 4) := by kernel_rfl
@[go_sem] theorem Tryz.load84 (H : Heap) (a : V) : readV Tryz.prog H 84 a = loadK (some (true, 4)) (obOf H a) a := readV_K Tryz.shape84 H a
@[go_sem] theorem Tryz.sz84 : szOf Tryz.prog 84 = some 4 := by kernel_rfl
@[go_sem] theorem Tryz.bytes84 : bytesV Tryz.prog 84 = some 4 := by kernel_rfl
@[go_sem] theorem Tryz.agg84 : isAggB Tryz.prog 84 = some true := by kernel_rfl
@[go_sem] theorem Tryz.zero84 : zeroC Tryz.prog 84 = some [.int .u8 0, .int .u8 0, .int .u8 0, .int .u8 0] := by kernel_rfl
theorem Tryz.zeroV84 : zeroV Tryz.prog 84 = some (.agg [.int .u8 0, .int .u8 0, .int .u8 0, .int .u8 0]) := by kernel_rfl
@[go_sem] theorem Tryz.bld84 (l : List (Nat × V)) : buildV Tryz.prog 84 l = (fillV (tblP [(0, 3), (3, 1)]) [.int .u8 0, .int .u8 0, .int .u8 0, .int .u8 0] l).map .agg := buildV_K (P := Tryz.prog) (t := 84) (tbl := [(0, 3), (3, 1)]) (z := [.int .u8 0, .int .u8 0, .int .u8 0, .int .u8 0]) (by kernel_rfl) (by kernel_rfl) l
theorem Tryz.fld84_0 : fldOf Tryz.prog 84 0 = some (0, true, 3) := by kernel_rfl
@[go_sem] theorem Tryz.fa84_0 (a : V) : fieldAddrV Tryz.prog 84 a 0 = fldK (some (0, true, 3)) a := fieldAddrV_K Tryz.fld84_0 a
@[go_sem] theorem Tryz.fv84_0 (l : List V) : fieldV Tryz.prog 84 (.agg l) 0 = partC true 3 l 0 := fieldV_K Tryz.fld84_0 l
theorem Tryz.fld84_1 : fldOf Tryz.prog 84 1 = some (3, false, 1) := by kernel_rfl
@[go_sem] theorem Tryz.fa84_1 (a : V) : fieldAddrV Tryz.prog 84 a 1 = fldK (some (3, false, 1)) a := fieldAddrV_K Tryz.fld84_1 a
@[go_sem] theorem Tryz.fv84_1 (l : List V) : fieldV Tryz.prog 84 (.agg l) 1 = partC false 1 l 3 := fieldV_K Tryz.fld84_1 l
theorem Tryz.shape85 : shapeOf Tryz.prog 85 = some (true, 92) := by kernel_rfl
@[go_sem] theorem Tryz.load85 (H : Heap) (a : V) : readV Tryz.prog H 85 a = loadK (some (true, 92)) (obOf H a) a := readV_K Tryz.shape85 H a
@[go_sem] theorem Tryz.sz85 : szOf Tryz.prog 85 = some 92 := by kernel_rfl
@[go_sem] theorem Tryz.bytes85 : bytesV Tryz.prog 85 = some 92 := by kernel_rfl
@[go_sem] theorem Tryz.agg85 : isAggB Tryz.prog 85 = some true := by kernel_rfl
@[go_sem] theorem Tryz.zero85 : zeroC Tryz.prog 85 = some (.int .u8 0 :: .int .u8 0 :: .int .u8 0 :: .int .u8 0 :: .int .u8 0 :: .int .u8 0 :: .int .u8 0 :: .int .u8 0 :: .int .u8 0 :: .int .u8 0 :: .int .u8 0 :: .int .u8 0 :: .int .u8 0 :: .int .u8 0 :: .int .u8 0 :: .int .u8 0 :: .int .u8 0 :: .int .u8 0 :: .int .u8 0 :: .int .u8 0 :: .int .u8 0 :: .int .u8 0 :: .int .u8 0 :: .int .u8 0 :: .int .u8 0 :: .int .u8 0 :: .int .u8 0 :: .int .u8 0 :: .int .u8 0 :: .int .u8 0 :: .int .u8 0 :: .int .u8 0 :: .int .u8 0 :: .int .u8 0 :: .int .u8 0 :: .int .u8 0 :: .int .u8 0 :: .int .u8 0 :: .int .u8 0 :: .int .u8 0 :: .int .u8 0 :: .int .u8 0 :: .int .u8 0 :: .int .u8 0 :: .int .u8 0 :: .int .u8 0 :: .int .u8 0 :: .int .u8 0 :: .int .u8 0 :: .int .u8 0 :: .int .u8 0 :: .int .u8 0 :: .int .u8 0 :: .int .u8 0 :: .int .u8 0 :: .int .u8 0 :: .int .u8 0 :: .int .u8 0 :: .int .u8 0 :: .int .u8 0 :: .int .u8 0 :: .int .u8 0 :: .int .u8 0 :: .int .u8 0 :: .int .u8 0 :: .int .u8 0 :: .int .u8 0 :: .int .u8 0 :: .int .u8 0 :: .int .u8 0 :: .int .u8 0 :: .int .u8 0 :: .int .u8 0 :: .int .u8 0 :: .int .u8 0 :: .int .u8 0 :: .int .u8 0 :: .int .u8 0 :: .int .u8 0 :: .int .u8 0 :: .int .u8 0 :: .int .u8 0 :: .int .u8 0 :: .int .u8 0 :: .int .u8 0 :: .int .u8 0 :: .int .u8 0 :: .int .u8 0 :: .int .u8 0 :: .int .u8 0 :: .int .u8 0 :: .int .u8 0 :: []) := by kernel_rfl
theorem Tryz.zeroV85 : zeroV Tryz.prog 85 = some (.agg (.int .u8 0 :: .int .u8 0 :: .int .u8 0 :: .int .u8 0 :: .int .u8 0 :: .int .u8 0 :: .int .u8 0 :: .int .u8 0 :: .int .u8 0 :: .int .u8 0 :: .int .u8 0 :: .int .u8 0 :: .int .u8 0 :: .int .u8 0 :: .int .u8 0 :: .int .u8 0 :: .int .u8 0 :: .int .u8 0 :: .int .u8 0 :: .int .u8 0 :: .int .u8 0 :: .int .u8 0 :: .int .u8 0 :: .int .u8 0 :: .int .u8 0 :: .int .u8 0 :: .int .u8 0 :: .int .u8 0 :: .int .u8 0 :: .int .u8 0 :: .int .u8 0 :: .int .u8 0 :: .int .u8 0 :: .int .u8 0 :: .int .u8 0 :: .int .u8 0 :: .int .u8 0 :: .int .u8 0 :: .int .u8 0 :: .int .u8 0 :: .int .u8 0 :: .int .u8 0 :: .int .u8 0 :: .int .u8 0 :: .int .u8 0 :: .int .u8 0 :: .int .u8 0 :: .int .u8 0 :: .int .u8 0 :: .int .u8 0 :: .int .u8 0 :: .int .u8 0 :: .int .u8 0 :: .int .u8 0 :: .int .u8 0 :: .int .u8 0 :: .int .u8 0 :: .int .u8 0 :: .int .u8 0 :: .int .u8 0 :: .int .u8 0 :: .int .u8 0 :: .int .u8 0 :: .int .u8 0 :: .int .u8 0 :: .int .u8 0 :: .int .u8 0 :: .int .u8 0 :: .int .u8 0 :: .int .u8 0 :: .int .u8 0 :: .int .u8 0 :: .int .u8 0 :: .int .u8 0 :: .int .u8 0 :: .int .u8 0 :: .int .u8 0 :: .int .u8 0 :: .int .u8 0 :: .int .u8 0 :: .int .u8 0 :: .int .u8 0 :: .int .u8 0 :: .int .u8 0 :: .int .u8 0 :: .int .u8 0 :: .int .u8 0 :: .int .u8 0 :: .int .u8 0 :: .int .u8 0 :: .int .u8 0 :: .int .u8 0 :: [])) := by kernel_rfl
@[go_sem] theorem Tryz.ia85 (a : V) (ik : IntKind) (n : Int) : indexAddrV Tryz.prog 85 a (.int ik n) = idxA 23 4 true a ik n := indexAddrV_A (P := Tryz.prog) (e := 84) (by kernel_rfl) (by kernel_rfl) (by kernel_rfl) (by decide) a ik n
@[go_sem] theorem Tryz.iv85 (l : List V) (ik : IntKind) (n : Int) : indexV Tryz.prog 85 (.agg l) (.int ik n) = if 0 ≤ n ∧ n < (23 : Nat) then partC true 4 l (n.toNat * 4) else none := indexV_A (P := Tryz.prog) (e := 84) (by kernel_rfl) (by kernel_rfl) (by kernel_rfl) (by decide) l ik n
@[go_sem] theorem Tryz.bla85 (l : List (Nat × V)) : buildV Tryz.prog 85 l = (fillV (mulP 4) (.int .u8 0 :: .int .u8 0 :: .int .u8 0 :: .int .u8 0 :: .int .u8 0 :: .int .u8 0 :: .int .u8 0 :: .int .u8 0 :: .int .u8 0 :: .int .u8 0 :: .int .u8 0 :: .int .u8 0 :: .int .u8 0 :: .int .u8 0 :: .int .u8 0 :: .int .u8 0 :: .int .u8 0 :: .int .u8 0 :: .int .u8 0 :: .int .u8 0 :: .int .u8 0 :: .int .u8 0 :: .int .u8 0 :: .int .u8 0 :: .int .u8 0 :: .int .u8 0 :: .int .u8 0 :: .int .u8 0 :: .int .u8 0 :: .int .u8 0 :: .int .u8 0 :: .int .u8 0 :: .int .u8 0 :: .int .u8 0 :: .int .u8 0 :: .int .u8 0 :: .int .u8 0 :: .int .u8 0 :: .int .u8 0 :: .int .u8 0 :: .int .u8 0 :: .int .u8 0 :: .int .u8 0 :: .int .u8 0 :: .int .u8 0 :: .int .u8 0 :: .int .u8 0 :: .int .u8 0 :: .int .u8 0 :: .int .u8 0 :: .int .u8 0 :: .int .u8 0 :: .int .u8 0 :: .int .u8 0 :: .int .u8 0 :: .int .u8 0 :: .int .u8 0 :: .int .u8 0 :: .int .u8 0 :: .int .u8 0 :: .int .u8 0 :: .int .u8 0 :: .int .u8 0 :: .int .u8 0 :: .int .u8 0 :: .int .u8 0 :: .int .u8 0 :: .int .u8 0 :: .int .u8 0 :: .int .u8 0 :: .int .u8 0 :: .int .u8 0 :: .int .u8 0 :: .int .u8 0 :: .int .u8 0 :: .int .u8 0 :: .int .u8 0 :: .int .u8 0 :: .int .u8 0 :: .int .u8 0 :: .int .u8 0 :: .int .u8 0 :: .int .u8 0 :: .int .u8 0 :: .int .u8 0 :: .int .u8 0 :: .int .u8 0 :: .int .u8 0 :: .int .u8 0 :: .int .u8 0 :: .int .u8 0 :: .int .u8 0 :: []) l).map .agg := buildV_A (P := Tryz.prog) (N := 23) (e := 84) (by kernel_rfl) (by kernel_rfl) (by kernel_rfl) l
theorem Tryz.shape88 : shapeOf Tryz.prog 88 = some (true, 93) := by kernel_rfl
@[go_sem] theorem Tryz.load88 (H : Heap) (a : V) : readV Tryz.prog H 88 a = loadK (some (true, 93)) (obOf H a) a := readV_K Tryz.shape88 H a
@[go_sem] theorem Tryz.sz88 : szOf Tryz.prog 88 = some 93 := by kernel_rfl
@[go_sem] theorem Tryz.bytes88 : bytesV Tryz.prog 88 = some 120 := by kernel_rfl
@[go_sem] theorem Tryz.agg88 : isAggB Tryz.prog 88 = some true := by kernel_rfl
theorem Tryz.fld88_0 : fldOf Tryz.prog 88 0 = some (0, true, 92) := by kernel_rfl
@[go_sem] theorem Tryz.fa88_0 (a : V) : fieldAddrV Tryz.prog 88 a 0 = fldK (some (0, true, 92)) a := fieldAddrV_K Tryz.fld88_0 a
@[go_sem] theorem Tryz.fv88_0 (l : List V) : fieldV Tryz.prog 88 (.agg l) 0 = partC true 92 l 0 := fieldV_K Tryz.fld88_0 l
theorem Tryz.fld88_1 : fldOf Tryz.prog 88 1 = some (92, false, 1) := by kernel_rfl
@[go_sem] theorem Tryz.fa88_1 (a : V) : fieldAddrV Tryz.prog 88 a 1 = fldK (some (92, false, 1)) a := fieldAddrV_K Tryz.fld88_1 a
@[go_sem] theorem Tryz.fv88_1 (l : List V) : fieldV Tryz.prog 88 (.agg l) 1 = partC false 1 l 92 := fieldV_K Tryz.fld88_1 l
theorem Tryz.shape95 : shapeOf Tryz.prog 95 = some (false, 1) := by kernel_rfl
@[go_sem] theorem Tryz.load95 (H : Heap) (a : V) : readV Tryz.prog H 95 a = loadK (some (false, 1)) (obOf H a) a := readV_K Tryz.shape95 H a
@[go_sem] theorem Tryz.sz95 : szOf Tryz.prog 95 = some 1 := by kernel_rfl
@[go_sem] theorem Tryz.bytes95 : bytesV Tryz.prog 95 = some 8 := by kernel_rfl
@[go_sem] theorem Tryz.agg95 : isAggB Tryz.prog 95 = some false := by kernel_rfl
@[go_sem] theorem Tryz.zero95 : zeroC Tryz.prog 95 = some [.nilp] := by kernel_rfl
theorem Tryz.nk95 : nilKind Tryz.prog 95 = 1 := by kernel_rfl
@[go_sem] theorem Tryz.eqn95 (a : V) : binV Tryz.prog .eql 95 a .nilp = (nilK 1 a).map .bool := (binV_nil _ _ Tryz.nk95 (by simp) a).1
@[go_sem] theorem Tryz.nen95 (a : V) : binV Tryz.prog .neq 95 a .nilp = (nilK 1 a).map fun r => .bool (!r) := (binV_nil _ _ Tryz.nk95 (by simp) a).2
theorem Tryz.shape96 : shapeOf Tryz.prog 96 = some (false, 1) := by kernel_rfl
@[go_sem] theorem Tryz.load96 (H : Heap) (a : V) : readV Tryz.prog H 96 a = loadK (some (false, 1)) (obOf H a) a := readV_K Tryz.shape96 H a
@[go_sem] theorem Tryz.sz96 : szOf Tryz.prog 96 = some 1 := by kernel_rfl
@[go_sem] theorem Tryz.bytes96 : bytesV Tryz.prog 96 = some 8 := by kernel_rfl
@[go_sem] theorem Tryz.agg96 : isAggB Tryz.prog 96 = some false := by kernel_rfl
@[go_sem] theorem Tryz.zero96 : zeroC Tryz.prog 96 = some [.nilf] := by kernel_rfl
theorem Tryz.nk96 : nilKind Tryz.prog 96 = 3 := by kernel_rfl
@[go_sem] theorem Tryz.eqn96 (a : V) : binV Tryz.prog .eql 96 a .nilf = (nilK 3 a).map .bool := (binV_nil _ _ Tryz.nk96 (by simp) a).1
@[go_sem] theorem Tryz.nen96 (a : V) : binV Tryz.prog .neq 96 a .nilf = (nilK 3 a).map fun r => .bool (!r) := (binV_nil _ _ Tryz.nk96 (by simp) a).2
theorem Tryz.shape98 : shapeOf Tryz.prog 98 = some (true, 5) := by kernel_rfl
@[go_sem] theorem Tryz.load98 (H : Heap) (a : V) : readV Tryz.prog H 98 a = loadK (some (true, 5)) (obOf H a) a := readV_K Tryz.shape98 H a
@[go_sem] theorem Tryz.sz98 : szOf Tryz.prog 98 = some 5 := by kernel_rfl
@[go_sem] theorem Tryz.bytes98 : bytesV Tryz.prog 98 = some 72 := by kernel_rfl
@[go_sem] theorem Tryz.agg98 : isAggB Tryz.prog 98 = some true := by kernel_rfl
@[go_sem] theorem Tryz.zero98 : zeroC Tryz.prog 98 = some [.nils, .int .i64 0, .nils, .int .i64 0, .nilf] := by kernel_rfl
theorem Tryz.zeroV98 : zeroV Tryz.prog 98 = some (.agg [.nils, .int .i64 0, .nils, .int .i64 0, .nilf]) := by kernel_rfl
@[go_sem] theorem Tryz.bld98 (l : List (Nat × V)) : buildV Tryz.prog 98 l = (fillV (tblP [(0, 1), (1, 1), (2, 1), (3, 1), (4, 1)]) [.nils, .int .i64 0, .nils, .int .i64 0, .nilf] l).map .agg := buildV_K (P := Tryz.prog) (t := 98) (tbl := [(0, 1), (1, 1), (2, 1), (3, 1), (4, 1)]) (z := [.nils, .int .i64 0, .nils, .int .i64 0, .nilf]) (by kernel_rfl) (by kernel_rfl) l
theorem Tryz.fld98_0 : fldOf Tryz.prog 98 0 = some (0, false, 1) := by kernel_rfl
@[go_sem] theorem Tryz.fa98_0 (a : V) : fieldAddrV Tryz.prog 98 a 0 = fldK (some (0, false, 1)) a := fieldAddrV_K Tryz.fld98_0 a
@[go_sem] theorem Tryz.fv98_0 (l : List V) : fieldV Tryz.prog 98 (.agg l) 0 = partC false 1 l 0 := fieldV_K Tryz.fld98_0 l
theorem Tryz.fld98_1 : fldOf Tryz.prog 98 1 = some (1, false, 1) := by kernel_rfl
@[go_sem] theorem Tryz.fa98_1 (a : V) : fieldAddrV Tryz.prog 98 a 1 = fldK (some (1, false, 1)) a := fieldAddrV_K Tryz.fld98_1 a
@[go_sem] theorem Tryz.fv98_1 (l : List V) : fieldV Tryz.prog 98 (.agg l) 1 = partC false 1 l 1 := fieldV_K Tryz.fld98_1 l
theorem Tryz.fld98_2 : fldOf Tryz.prog 98 2 = some (2, false, 1) := by kernel_rfl
@[go_sem] theorem Tryz.fa98_2 (a : V) : fieldAddrV Tryz.prog 98 a 2 = fldK (some (2, false, 1)) a := fieldAddrV_K Tryz.fld98_2 a
@[go_sem] theorem Tryz.fv98_2 (l : List V) : fieldV Tryz.prog 98 (.agg l) 2 = partC false 1 l 2 := fieldV_K Tryz.fld98_2 l
theorem Tryz.fld98_3 : fldOf Tryz.prog 98 3 = some (3, false, 1) := by kernel_rfl
@[go_sem] theorem Tryz.fa98_3 (a : V) : fieldAddrV Tryz.prog 98 a 3 = fldK (some (3, false, 1)) a := fieldAddrV_K Tryz.fld98_3 a
@[go_sem] theorem Tryz.fv98_3 (l : List V) : fieldV Tryz.prog 98 (.agg l) 3 = partC false 1 l 3 := fieldV_K Tryz.fld98_3 l
theorem Tryz.fld98_4 : fldOf Tryz.prog 98 4 = some (4, false, 1) := by kernel_rfl
@[go_sem] theorem Tryz.fa98_4 (a : V) : fieldAddrV Tryz.prog 98 a 4 = fldK (some (4, false, 1)) a := fieldAddrV_K Tryz.fld98_4 a
@[go_sem] theorem Tryz.fv98_4 (l : List V) : fieldV Tryz.prog 98 (.agg l) 4 = partC false 1 l 4 := fieldV_K Tryz.fld98_4 l
theorem Tryz.shape107 : shapeOf Tryz.prog 107 = some (true, 3) := by kernel_rfl
@[go_sem] theorem Tryz.load107 (H : Heap) (a : V) : readV Tryz.prog H 107 a = loadK (some (true, 3)) (obOf H a) a := readV_K Tryz.shape107 H a
@[go_sem] theorem Tryz.sz107 : szOf Tryz.prog 107 = some 3 := by kernel_rfl
@[go_sem] theorem Tryz.bytes107 : bytesV Tryz.prog 107 = some 32 := by kernel_rfl
@[go_sem] theorem Tryz.agg107 : isAggB Tryz.prog 107 = some true := by kernel_rfl
@[go_sem] theorem Tryz.zero107 : zeroC Tryz.prog 107 = some [.str [], .int .i64 0, .int .i64 0] := by kernel_rfl
theorem Tryz.zeroV107 : zeroV Tryz.prog 107 = some (.agg [.str [], .int .i64 0, .int .i64 0]) := by kernel_rfl
@[go_sem] theorem Tryz.bld107 (l : List (Nat × V)) : buildV Tryz.prog 107 l = (fillV (tblP [(0, 1), (1, 1), (2, 1)]) [.str [], .int .i64 0, .int .i64 0] l).map .agg := buildV_K (P := Tryz.prog) (t := 107) (tbl := [(0, 1), (1, 1), (2, 1)]) (z := [.str [], .int .i64 0, .int .i64 0]) (by kernel_rfl) (by kernel_rfl) l
theorem Tryz.fld107_0 : fldOf Tryz.prog 107 0 = some (0, false, 1) := by kernel_rfl
@[go_sem] theorem Tryz.fa107_0 (a : V) : fieldAddrV Tryz.prog 107 a 0 = fldK (some (0, false, 1)) a := fieldAddrV_K Tryz.fld107_0 a
@[go_sem] theorem Tryz.fv107_0 (l : List V) : fieldV Tryz.prog 107 (.agg l) 0 = partC false 1 l 0 := fieldV_K Tryz.fld107_0 l
theorem Tryz.fld107_1 : fldOf Tryz.prog 107 1 = some (1, false, 1) := by kernel_rfl
@[go_sem] theorem Tryz.fa107_1 (a : V) : fieldAddrV Tryz.prog 107 a 1 = fldK (some (1, false, 1)) a := fieldAddrV_K Tryz.fld107_1 a
@[go_sem] theorem Tryz.fv107_1 (l : List V) : fieldV Tryz.prog 107 (.agg l) 1 = partC false 1 l 1 := fieldV_K Tryz.fld107_1 l
theorem Tryz.fld107_2 : fldOf Tryz.prog 107 2 = some (2, false, 1) := by kernel_rfl
@[go_sem] theorem Tryz.fa107_2 (a : V) : fieldAddrV Tryz.prog 107 a 2 = fldK (some (2, false, 1)) a := fieldAddrV_K Tryz.fld107_2 a
@[go_sem] theorem Tryz.fv107_2 (l : List V) : fieldV Tryz.prog 107 (.agg l) 2 = partC false 1 l 2 := fieldV_K Tryz.fld107_2 l
theorem Tryz.shape108 : shapeOf Tryz.prog 108 = some (true, 69) := by kernel_rfl
@[go_sem] theorem Tryz.load108 (H : Heap) (a : V) : readV Tryz.prog H 108 a = loadK (some (true, 69)) (obOf H a) a := readV_K Tryz.shape108 H a
@[go_sem] theorem Tryz.sz108 : szOf Tryz.prog 108 = some 69 := by kernel_rfl
@[go_sem] theorem Tryz.bytes108 : bytesV Tryz.prog 108 = some 736 := by kernel_rfl
@[go_sem] theorem Tryz.agg108 : isAggB Tryz.prog 108 = some true := by kernel_rfl
@[go_sem] theorem Tryz.zero108 : zeroC Tryz.prog 108 = some (.str [] :: .int .i64 0 :: .int .i64 0 :: .str [] :: .int .i64 0 :: .int .i64 0 :: .str [] :: .int .i64 0 :: .int .i64 0 :: .str [] :: .int .i64 0 :: .int .i64 0 :: .str [] :: .int .i64 0 :: .int .i64 0 :: .str [] :: .int .i64 0 :: .int .i64 0 :: .str [] :: .int .i64 0 :: .int .i64 0 :: .str [] :: .int .i64 0 :: .int .i64 0 :: .str [] :: .int .i64 0 :: .int .i64 0 :: .str [] :: .int .i64 0 :: .int .i64 0 :: .str [] :: .int .i64 0 :: .int .i64 0 :: .str [] :: .int .i64 0 :: .int .i64 0 :: .str [] :: .int .i64 0 :: .int .i64 0 :: .str [] :: .int .i64 0 :: .int .i64 0 :: .str [] :: .int .i64 0 :: .int .i64 0 :: .str [] :: .int .i64 0 :: .int .i64 0 :: .str [] :: .int .i64 0 :: .int .i64 0 :: .str [] :: .int .i64 0 :: .int .i64 0 :: .str [] :: .int .i64 0 :: .int .i64 0 :: .str [] :: .int .i64 0 :: .int .i64 0 :: .str [] :: .int .i64 0 :: .int .i64 0 :: .str [] :: .int .i64 0 :: .int .i64 0 :: .str [] :: .int .i64 0 :: .int .i64 0 :: []) := by kernel_rfl
theorem Tryz.zeroV108 : zeroV Tryz.prog 108 = some (.agg (.str [] :: .int .i64 0 :: .int .i64 0 :: .str [] :: .int .i64 0 :: .int .i64 0 :: .str [] :: .int .i64 0 :: .int .i64 0 :: .str [] :: .int .i64 0 :: .int .i64 0 :: .str [] :: .int .i64 0 :: .int .i64 0 :: .str [] :: .int .i64 0 :: .int .i64 0 :: .str [] :: .int .i64 0 :: .int .i64 0 :: .str [] :: .int .i64 0 :: .int .i64 0 :: .str [] :: .int .i64 0 :: .int .i64 0 :: .str [] :: .int .i64 0 :: .int .i64 0 :: .str [] :: .int .i64 0 :: .int .i64 0 :: .str [] :: .int .i64 0 :: .int .i64 0 :: .str [] :: .int .i64 0 :: .int .i64 0 :: .str [] :: .int .i64 0 :: .int .i64 0 :: .str [] :: .int .i64 0 :: .int .i64 0 :: .str [] :: .int .i64 0 :: .int .i64 0 :: .str [] :: .int .i64 0 :: .int .i64 0 :: .str [] :: .int .i64 0 :: .int .i64 0 :: .str [] :: .int .i64 0 :: .int .i64 0 :: .str [] :: .int .i64 0 :: .int .i64 0 :: .str [] :: .int .i64 0 :: .int .i64 0 :: .str [] :: .int .i64 0 :: .int .i64 0 :: .str [] :: .int .i64 0 :: .int .i64 0 :: [])) := by kernel_rfl
@[go_sem] theorem Tryz.ia108 (a : V) (ik : IntKind) (n : Int) : indexAddrV Tryz.prog 108 a (.int ik n) = idxA 23 3 true a ik n := indexAddrV_A (P := Tryz.prog) (e := 107) (by kernel_rfl) (by kernel_rfl) (by kernel_rfl) (by decide) a ik n
@[go_sem] theorem Tryz.iv108 (l : List V) (ik : IntKind) (n : Int) : indexV Tryz.prog 108 (.agg l) (.int ik n) = if 0 ≤ n ∧ n < (23 : Nat) then partC true 3 l (n.toNat * 3) else none := indexV_A (P := Tryz.prog) (e := 107) (by kernel_rfl) (by kernel_rfl) (by kernel_rfl) (by decide) l ik n
@[go_sem] theorem Tryz.bla108 (l : List (Nat × V)) : buildV Tryz.prog 108 l = (fillV (mulP 3) (.str [] :: .int .i64 0 :: .int .i64 0 :: .str [] :: .int .i64 0 :: .int .i64 0 :: .str [] :: .int .i64 0 :: .int .i64 0 :: .str [] :: .int .i64 0 :: .int .i64 0 :: .str [] :: .int .i64 0 :: .int .i64 0 :: .str [] :: .int .i64 0 :: .int .i64 0 :: .str [] :: .int .i64 0 :: .int .i64 0 :: .str [] :: .int .i64 0 :: .int .i64 0 :: .str [] :: .int .i64 0 :: .int .i64 0 :: .str [] :: .int .i64 0 :: .int .i64 0 :: .str [] :: .int .i64 0 :: .int .i64 0 :: .str [] :: .int .i64 0 :: .int .i64 0 :: .str [] :: .int .i64 0 :: .int .i64 0 :: .str [] :: .int .i64 0 :: .int .i64 0 :: .str [] :: .int .i64 0 :: .int .i64 0 :: .str [] :: .int .i64 0 :: .int .i64 0 :: .str [] :: .int .i64 0 :: .int .i64 0 :: .str [] :: .int .i64 0 :: .int .i64 0 :: .str [] :: .int .i64 0 :: .int .i64 0 :: .str [] :: .int .i64 0 :: .int .i64 0 :: .str [] :: .int .i64 0 :: .int .i64 0 :: .str [] :: .int .i64 0 :: .int .i64 0 :: .str [] :: .int .i64 0 :: .int .i64 0 :: []) l).map .agg := buildV_A (P := Tryz.prog) (N := 23) (e := 107) (by kernel_rfl) (by kernel_rfl) (by kernel_rfl) l
theorem Tryz.shape110 : shapeOf Tryz.prog 110 = some (false, 1) := by kernel_rfl
@[go_sem] theorem Tryz.load110 (H : Heap) (a : V) : readV Tryz.prog H 110 a = loadK (some (false, 1)) (obOf H a) a := readV_K Tryz.shape110 H a
@[go_sem] theorem Tryz.sz110 : szOf Tryz.prog 110 = some 1 := by kernel_rfl
@[go_sem] theorem Tryz.bytes110 : bytesV Tryz.prog 110 = some 24 := by kernel_rfl
@[go_sem] theorem Tryz.agg110 : isAggB Tryz.prog 110 = some false := by kernel_rfl
@[go_sem] theorem Tryz.zero110 : zeroC Tryz.prog 110 = some [.nils] := by kernel_rfl
theorem Tryz.nk110 : nilKind Tryz.prog 110 = 2 := by kernel_rfl
@[go_sem] theorem Tryz.eqn110 (a : V) : binV Tryz.prog .eql 110 a .nils = (nilK 2 a).map .bool := (binV_nil _ _ Tryz.nk110 (by simp) a).1
@[go_sem] theorem Tryz.nen110 (a : V) : binV Tryz.prog .neq 110 a .nils = (nilK 2 a).map fun r => .bool (!r) := (binV_nil _ _ Tryz.nk110 (by simp) a).2
theorem Tryz.elem110 : elemOf Tryz.prog 110 = some 2 := by kernel_rfl
@[go_sem] theorem Tryz.idx110 (a i : V) : indexAddrV Tryz.prog 110 a i = idxK (some 2) a i := indexAddrV_K Tryz.elem110 a i
@[go_sem] theorem Tryz.len110 (a : V) : lenV Tryz.prog 110 a = lenK true a := lenV_slice Tryz.elem110 a
@[go_sem] theorem Tryz.sl110 (a : V) (lo hi : Option V) : sliceV Tryz.prog 110 a lo hi none = slK 2 a lo hi := sliceV_K Tryz.elem110 a lo hi
@[go_sem] theorem Tryz.bs110 (n : Nat) (l : List (Nat × V)) : bsCells Tryz.prog 110 n l = bsK 2 [.int .i64 0, .int .i64 0] n l := bsCells_K (P := Tryz.prog) (t := 110) (e := 114) (m := 2) (z := [.int .i64 0, .int .i64 0]) (by kernel_rfl) (by kernel_rfl) (by kernel_rfl) rfl n l
@[go_sem] theorem Tryz.ms110 (a b : V) : msCells Tryz.prog 110 a b = msK 2 16 [.int .i64 0, .int .i64 0] a b := msCells_K (P := Tryz.prog) (t := 110) (e := 114) (E := 2) (bytes := 16) (z := [.int .i64 0, .int .i64 0]) (by kernel_rfl) (by kernel_rfl) (by kernel_rfl) (by kernel_rfl) rfl a b
theorem Tryz.app110 : appOf Tryz.prog [110, 110] = some (2, 16) := by kernel_rfl
@[go_sem] theorem Tryz.appc110 (E : Ent) (ops : Array Oper) (Q : AS → Prop) (rest : List Oper) (e : Nat) (τ : Nat → V) (H : Heap) (a b : V) : appC Tryz.prog E ops Q rest e τ H [110, 110] a b = appE Tryz.prog E ops Q rest e τ H 2 16 a (srcCells H 2 b) (obS H a) := appC_E ops Tryz.app110 e a b
theorem Tryz.shape112 : shapeOf Tryz.prog 112 = some (false, 1) := by kernel_rfl
@[go_sem] theorem Tryz.load112 (H : Heap) (a : V) : readV Tryz.prog H 112 a = loadK (some (false, 1)) (obOf H a) a := readV_K Tryz.shape112 H a
@[go_sem] theorem Tryz.sz112 : szOf Tryz.prog 112 = some 1 := by kernel_rfl
@[go_sem] theorem Tryz.bytes112 : bytesV Tryz.prog 112 = some 24 := by kernel_rfl
@[go_sem] theorem Tryz.agg112 : isAggB Tryz.prog 112 = some false := by kernel_rfl
@[go_sem] theorem Tryz.zero112 : zeroC Tryz.prog 112 = some [.nils] := by kernel_rfl
theorem Tryz.nk112 : nilKind Tryz.prog 112 = 2 := by kernel_rfl
@[go_sem] theorem Tryz.eqn112 (a : V) : binV Tryz.prog .eql 112 a .nils = (nilK 2 a).map .bool := (binV_nil _ _ Tryz.nk112 (by simp) a).1
@[go_sem] theorem Tryz.nen112 (a : V) : binV Tryz.prog .neq 112 a .nils = (nilK 2 a).map fun r => .bool (!r) := (binV_nil _ _ Tryz.nk112 (by simp) a).2
theorem Tryz.elem112 : elemOf Tryz.prog 112 = some 1 := by kernel_rfl
@[go_sem] theorem Tryz.idx112 (a i : V) : indexAddrV Tryz.prog 112 a i = idxK (some 1) a i := indexAddrV_K Tryz.elem112 a i
@[go_sem] theorem Tryz.len112 (a : V) : lenV Tryz.prog 112 a = lenK true a := lenV_slice Tryz.elem112 a
@[go_sem] theorem Tryz.sl112 (a : V) (lo hi : Option V) : sliceV Tryz.prog 112 a lo hi none = slK 1 a lo hi := sliceV_K Tryz.elem112 a lo hi
@[go_sem] theorem Tryz.bs112 (n : Nat) (l : List (Nat × V)) : bsCells Tryz.prog 112 n l = bsK 1 [.int .i64 0] n l := bsCells_K (P := Tryz.prog) (t := 112) (e := 3) (m := 1) (z := [.int .i64 0]) (by kernel_rfl) (by kernel_rfl) (by kernel_rfl) rfl n l
@[go_sem] theorem Tryz.ms112 (a b : V) : msCells Tryz.prog 112 a b = msK 1 8 [.int .i64 0] a b := msCells_K (P := Tryz.prog) (t := 112) (e := 3) (E := 1) (bytes := 8) (z := [.int .i64 0]) (by kernel_rfl) (by kernel_rfl) (by kernel_rfl) (by kernel_rfl) rfl a b
theorem Tryz.app112 : appOf Tryz.prog [112, 112] = some (1, 8) := by kernel_rfl
@[go_sem] theorem Tryz.appc112 (E : Ent) (ops : Array Oper) (Q : AS → Prop) (rest : List Oper) (e : Nat) (τ : Nat → V) (H : Heap) (a b : V) : appC Tryz.prog E ops Q rest e τ H [112, 112] a b = appE Tryz.prog E ops Q rest e τ H 1 8 a (srcCells H 1 b) (obS H a) := appC_E ops Tryz.app112 e a b
theorem Tryz.shape114 : shapeOf Tryz.prog 114 = some (true, 2) := by kernel_rfl
@[go_sem] theorem Tryz.load114 (H : Heap) (a : V) : readV Tryz.prog H 114 a = loadK (some (true, 2)) (obOf H a) a := readV_K Tryz.shape114 H a
@[go_sem] theorem Tryz.sz114 : szOf Tryz.prog 114 = some 2 := by kernel_rfl
@[go_sem] theorem Tryz.bytes114 : bytesV Tryz.prog 114 = some 16 := by kernel_rfl
@[go_sem] theorem Tryz.agg114 : isAggB Tryz.prog 114 = some true := by kernel_rfl
@[go_sem] theorem Tryz.zero114 : zeroC Tryz.prog 114 = some [.int .i64 0, .int .i64 0] := by kernel_rfl
theorem Tryz.zeroV114 : zeroV Tryz.prog 114 = some (.agg [.int .i64 0, .int .i64 0]) := by kernel_rfl
@[go_sem] theorem Tryz.bld114 (l : List (Nat × V)) : buildV Tryz.prog 114 l = (fillV (tblP [(0, 1), (1, 1)]) [.int .i64 0, .int .i64 0] l).map .agg := buildV_K (P := Tryz.prog) (t := 114) (tbl := [(0, 1), (1, 1)]) (z := [.int .i64 0, .int .i64 0]) (by kernel_rfl) (by kernel_rfl) l
theorem Tryz.fld114_0 : fldOf Tryz.prog 114 0 = some (0, false, 1) := by kernel_rfl
@[go_sem] theorem Tryz.fa114_0 (a : V) : fieldAddrV Tryz.prog 114 a 0 = fldK (some (0, false, 1)) a := fieldAddrV_K Tryz.fld114_0 a
@[go_sem] theorem Tryz.fv114_0 (l : List V) : fieldV Tryz.prog 114 (.agg l) 0 = partC false 1 l 0 := fieldV_K Tryz.fld114_0 l
theorem Tryz.fld114_1 : fldOf Tryz.prog 114 1 = some (1, false, 1) := by kernel_rfl
@[go_sem] theorem Tryz.fa114_1 (a : V) : fieldAddrV Tryz.prog 114 a 1 = fldK (some (1, false, 1)) a := fieldAddrV_K Tryz.fld114_1 a
@[go_sem] theorem Tryz.fv114_1 (l : List V) : fieldV Tryz.prog 114 (.agg l) 1 = partC false 1 l 1 := fieldV_K Tryz.fld114_1 l
theorem Tryz.shape131 : shapeOf Tryz.prog 131 = some (false, 1) := by kernel_rfl
@[go_sem] theorem Tryz.load131 (H : Heap) (a : V) : readV Tryz.prog H 131 a = loadK (some (false, 1)) (obOf H a) a := readV_K Tryz.shape131 H a
@[go_sem] theorem Tryz.sz131 : szOf Tryz.prog 131 = some 1 := by kernel_rfl
@[go_sem] theorem Tryz.bytes131 : bytesV Tryz.prog 131 = some 8 := by kernel_rfl
@[go_sem] theorem Tryz.agg131 : isAggB Tryz.prog 131 = some false := by kernel_rfl
@[go_sem] theorem Tryz.zero131 : zeroC Tryz.prog 131 = some [.nilp] := by kernel_rfl
theorem Tryz.nk131 : nilKind Tryz.prog 131 = 1 := by kernel_rfl
@[go_sem] theorem Tryz.eqn131 (a : V) : binV Tryz.prog .eql 131 a .nilp = (nilK 1 a).map .bool := (binV_nil _ _ Tryz.nk131 (by simp) a).1
@[go_sem] theorem Tryz.nen131 (a : V) : binV Tryz.prog .neq 131 a .nilp = (nilK 1 a).map fun r => .bool (!r) := (binV_nil _ _ Tryz.nk131 (by simp) a).2
theorem Tryz.shape133 : shapeOf Tryz.prog 133 = some (true, 2) := by kernel_rfl
@[go_sem] theorem Tryz.load133 (H : Heap) (a : V) : readV Tryz.prog H 133 a = loadK (some (true, 2)) (obOf H a) a := readV_K Tryz.shape133 H a
@[go_sem] theorem Tryz.sz133 : szOf Tryz.prog 133 = some 2 := by kernel_rfl
@[go_sem] theorem Tryz.bytes133 : bytesV Tryz.prog 133 = some 32 := by kernel_rfl
@[go_sem] theorem Tryz.agg133 : isAggB Tryz.prog 133 = some true := by kernel_rfl
@[go_sem] theorem Tryz.zero133 : zeroC Tryz.prog 133 = some [.nilp, .nils] := by kernel_rfl
theorem Tryz.zeroV133 : zeroV Tryz.prog 133 = some (.agg [.nilp, .nils]) := by kernel_rfl
@[go_sem] theorem Tryz.bld133 (l : List (Nat × V)) : buildV Tryz.prog 133 l = (fillV (tblP [(0, 1), (1, 1)]) [.nilp, .nils] l).map .agg := buildV_K (P := Tryz.prog) (t := 133) (tbl := [(0, 1), (1, 1)]) (z := [.nilp, .nils]) (by kernel_rfl) (by kernel_rfl) l
theorem Tryz.fld133_0 : fldOf Tryz.prog 133 0 = some (0, false, 1) := by kernel_rfl
@[go_sem] theorem Tryz.fa133_0 (a : V) : fieldAddrV Tryz.prog 133 a 0 = fldK (some (0, false, 1)) a := fieldAddrV_K Tryz.fld133_0 a
@[go_sem] theorem Tryz.fv133_0 (l : List V) : fieldV Tryz.prog 133 (.agg l) 0 = partC false 1 l 0 := fieldV_K Tryz.fld133_0 l
theorem Tryz.fld133_1 : fldOf Tryz.prog 133 1 = some (1, false, 1) := by kernel_rfl
@[go_sem] theorem Tryz.fa133_1 (a : V) : fieldAddrV Tryz.prog 133 a 1 = fldK (some (1, false, 1)) a := fieldAddrV_K Tryz.fld133_1 a
@[go_sem] theorem Tryz.fv133_1 (l : List V) : fieldV Tryz.prog 133 (.agg l) 1 = partC false 1 l 1 := fieldV_K Tryz.fld133_1 l
theorem Tryz.shape136 : shapeOf Tryz.prog 136 = some (false, 1) := by kernel_rfl
@[go_sem] theorem Tryz.load136 (H : Heap) (a : V) : readV Tryz.prog H 136 a = loadK (some (false, 1)) (obOf H a) a := readV_K Tryz.shape136 H a
@[go_sem] theorem Tryz.sz136 : szOf Tryz.prog 136 = some 1 := by kernel_rfl
@[go_sem] theorem Tryz.bytes136 : bytesV Tryz.prog 136 = some 16 := by kernel_rfl
@[go_sem] theorem Tryz.agg136 : isAggB Tryz.prog 136 = some false := by kernel_rfl
@[go_sem] theorem Tryz.zero136 : zeroC Tryz.prog 136 = some [.nili] := by kernel_rfl
theorem Tryz.nk136 : nilKind Tryz.prog 136 = 4 := by kernel_rfl
@[go_sem] theorem Tryz.eqn136 (a : V) : binV Tryz.prog .eql 136 a .nili = (nilK 4 a).map .bool := (binV_nil _ _ Tryz.nk136 (by simp) a).1
@[go_sem] theorem Tryz.nen136 (a : V) : binV Tryz.prog .neq 136 a .nili = (nilK 4 a).map fun r => .bool (!r) := (binV_nil _ _ Tryz.nk136 (by simp) a).2
theorem Tryz.shape145 : shapeOf Tryz.prog 145 = some (false, 1) := by kernel_rfl
@[go_sem] theorem Tryz.load145 (H : Heap) (a : V) : readV Tryz.prog H 145 a = loadK (some (false, 1)) (obOf H a) a := readV_K Tryz.shape145 H a
@[go_sem] theorem Tryz.sz145 : szOf Tryz.prog 145 = some 1 := by kernel_rfl
@[go_sem] theorem Tryz.bytes145 : bytesV Tryz.prog 145 = some 8 := by kernel_rfl
@[go_sem] theorem Tryz.agg145 : isAggB Tryz.prog 145 = some false := by kernel_rfl
@[go_sem] theorem Tryz.zero145 : zeroC Tryz.prog 145 = some [.nilf] := by kernel_rfl
theorem Tryz.nk145 : nilKind Tryz.prog 145 = 3 := by kernel_rfl
@[go_sem] theorem Tryz.eqn145 (a : V) : binV Tryz.prog .eql 145 a .nilf = (nilK 3 a).map .bool := (binV_nil _ _ Tryz.nk145 (by simp) a).1
@[go_sem] theorem Tryz.nen145 (a : V) : binV Tryz.prog .neq 145 a .nilf = (nilK 3 a).map fun r => .bool (!r) := (binV_nil _ _ Tryz.nk145 (by simp) a).2
theorem Tryz.shape148 : shapeOf Tryz.prog 148 = some (true, 14) := by kernel_rfl
@[go_sem] theorem Tryz.load148 (H : Heap) (a : V) : readV Tryz.prog H 148 a = loadK (some (true, 14)) (obOf H a) a := readV_K Tryz.shape148 H a
@[go_sem] theorem Tryz.sz148 : szOf Tryz.prog 148 = some 14 := by kernel_rfl
@[go_sem] theorem Tryz.bytes148 : bytesV Tryz.prog 148 = some 224 := by kernel_rfl
@[go_sem] theorem Tryz.agg148 : isAggB Tryz.prog 148 = some true := by kernel_rfl
@[go_sem] theorem Tryz.zero148 : zeroC Tryz.prog 148 = some [.str [], .str [], .str [], .str [], .str [], .str [], .str [], .str [], .str [], .str [], .str [], .str [], .str [], .str []] := by kernel_rfl
theorem Tryz.zeroV148 : zeroV Tryz.prog 148 = some (.agg [.str [], .str [], .str [], .str [], .str [], .str [], .str [], .str [], .str [], .str [], .str [], .str [], .str [], .str []]) := by kernel_rfl
@[go_sem] theorem Tryz.ia148 (a : V) (ik : IntKind) (n : Int) : indexAddrV Tryz.prog 148 a (.int ik n) = idxA 14 1 false a ik n := indexAddrV_A (P := Tryz.prog) (e := 9) (by kernel_rfl) (by kernel_rfl) (by kernel_rfl) (by decide) a ik n
@[go_sem] theorem Tryz.iv148 (l : List V) (ik : IntKind) (n : Int) : indexV Tryz.prog 148 (.agg l) (.int ik n) = if 0 ≤ n ∧ n < (14 : Nat) then partC false 1 l (n.toNat * 1) else none := indexV_A (P := Tryz.prog) (e := 9) (by kernel_rfl) (by kernel_rfl) (by kernel_rfl) (by decide) l ik n
@[go_sem] theorem Tryz.bla148 (l : List (Nat × V)) : buildV Tryz.prog 148 l = (fillV (mulP 1) [.str [], .str [], .str [], .str [], .str [], .str [], .str [], .str [], .str [], .str [], .str [], .str [], .str [], .str []] l).map .agg := buildV_A (P := Tryz.prog) (N := 14) (e := 9) (by kernel_rfl) (by kernel_rfl) (by kernel_rfl) l
theorem Tryz.shape151 : shapeOf Tryz.prog 151 = some (false, 1) := by kernel_rfl
@[go_sem] theorem Tryz.load151 (H : Heap) (a : V) : readV Tryz.prog H 151 a = loadK (some (false, 1)) (obOf H a) a := readV_K Tryz.shape151 H a
@[go_sem] theorem Tryz.sz151 : szOf Tryz.prog 151 = some 1 := by kernel_rfl
@[go_sem] theorem Tryz.bytes151 : bytesV Tryz.prog 151 = some 24 := by kernel_rfl
@[go_sem] theorem Tryz.agg151 : isAggB Tryz.prog 151 = some false := by kernel_rfl
@[go_sem] theorem Tryz.zero151 : zeroC Tryz.prog 151 = some [.nils] := by kernel_rfl
theorem Tryz.nk151 : nilKind Tryz.prog 151 = 2 := by kernel_rfl
@[go_sem] theorem Tryz.eqn151 (a : V) : binV Tryz.prog .eql 151 a .nils = (nilK 2 a).map .bool := (binV_nil _ _ Tryz.nk151 (by simp) a).1
@[go_sem] theorem Tryz.nen151 (a : V) : binV Tryz.prog .neq 151 a .nils = (nilK 2 a).map fun r => .bool (!r) := (binV_nil _ _ Tryz.nk151 (by simp) a).2
theorem Tryz.elem151 : elemOf Tryz.prog 151 = some 3 := by kernel_rfl
@[go_sem] theorem Tryz.idx151 (a i : V) : indexAddrV Tryz.prog 151 a i = idxK (some 3) a i := indexAddrV_K Tryz.elem151 a i
@[go_sem] theorem Tryz.len151 (a : V) : lenV Tryz.prog 151 a = lenK true a := lenV_slice Tryz.elem151 a
@[go_sem] theorem Tryz.sl151 (a : V) (lo hi : Option V) : sliceV Tryz.prog 151 a lo hi none = slK 3 a lo hi := sliceV_K Tryz.elem151 a lo hi
@[go_sem] theorem Tryz.bs151 (n : Nat) (l : List (Nat × V)) : bsCells Tryz.prog 151 n l = bsK 3 [.str [], .int .i64 0, .int .i64 0] n l := bsCells_K (P := Tryz.prog) (t := 151) (e := 107) (m := 3) (z := [.str [], .int .i64 0, .int .i64 0]) (by kernel_rfl) (by kernel_rfl) (by kernel_rfl) rfl n l
@[go_sem] theorem Tryz.ms151 (a b : V) : msCells Tryz.prog 151 a b = msK 3 32 [.str [], .int .i64 0, .int .i64 0] a b := msCells_K (P := Tryz.prog) (t := 151) (e := 107) (E := 3) (bytes := 32) (z := [.str [], .int .i64 0, .int .i64 0]) (by kernel_rfl) (by kernel_rfl) (by kernel_rfl) (by kernel_rfl) rfl a b
theorem Tryz.app151 : appOf Tryz.prog [151, 151] = some (3, 32) := by kernel_rfl
@[go_sem] theorem Tryz.appc151 (E : Ent) (ops : Array Oper) (Q : AS → Prop) (rest : List Oper) (e : Nat) (τ : Nat → V) (H : Heap) (a b : V) : appC Tryz.prog E ops Q rest e τ H [151, 151] a b = appE Tryz.prog E ops Q rest e τ H 3 32 a (srcCells H 3 b) (obS H a) := appC_E ops Tryz.app151 e a b
theorem Tryz.shape152 : shapeOf Tryz.prog 152 = some (false, 1) := by kernel_rfl
@[go_sem] theorem Tryz.load152 (H : Heap) (a : V) : readV Tryz.prog H 152 a = loadK (some (false, 1)) (obOf H a) a := readV_K Tryz.shape152 H a
@[go_sem] theorem Tryz.sz152 : szOf Tryz.prog 152 = some 1 := by kernel_rfl
@[go_sem] theorem Tryz.bytes152 : bytesV Tryz.prog 152 = some 8 := by kernel_rfl
@[go_sem] theorem Tryz.agg152 : isAggB Tryz.prog 152 = some false := by kernel_rfl
@[go_sem] theorem Tryz.zero152 : zeroC Tryz.prog 152 = some [.nilf] := by kernel_rfl
theorem Tryz.nk152 : nilKind Tryz.prog 152 = 3 := by kernel_rfl
@[go_sem] theorem Tryz.eqn152 (a : V) : binV Tryz.prog .eql 152 a .nilf = (nilK 3 a).map .bool := (binV_nil _ _ Tryz.nk152 (by simp) a).1
@[go_sem] theorem Tryz.nen152 (a : V) : binV Tryz.prog .neq 152 a .nilf = (nilK 3 a).map fun r => .bool (!r) := (binV_nil _ _ Tryz.nk152 (by simp) a).2
theorem Tryz.shape153 : shapeOf Tryz.prog 153 = some (false, 1) := by kernel_rfl
@[go_sem] theorem Tryz.load153 (H : Heap) (a : V) : readV Tryz.prog H 153 a = loadK (some (false, 1)) (obOf H a) a := readV_K Tryz.shape153 H a
@[go_sem] theorem Tryz.sz153 : szOf Tryz.prog 153 = some 1 := by kernel_rfl
@[go_sem] theorem Tryz.bytes153 : bytesV Tryz.prog 153 = some 8 := by kernel_rfl
@[go_sem] theorem Tryz.agg153 : isAggB Tryz.prog 153 = some false := by kernel_rfl
@[go_sem] theorem Tryz.zero153 : zeroC Tryz.prog 153 = some [.nilp] := by kernel_rfl
theorem Tryz.nk153 : nilKind Tryz.prog 153 = 1 := by kernel_rfl
@[go_sem] theorem Tryz.eqn153 (a : V) : binV Tryz.prog .eql 153 a .nilp = (nilK 1 a).map .bool := (binV_nil _ _ Tryz.nk153 (by simp) a).1
@[go_sem] theorem Tryz.nen153 (a : V) : binV Tryz.prog .neq 153 a .nilp = (nilK 1 a).map fun r => .bool (!r) := (binV_nil _ _ Tryz.nk153 (by simp) a).2
theorem Tryz.shape158 : shapeOf Tryz.prog 158 = some (true, 2) := by kernel_rfl
@[go_sem] theorem Tryz.load158 (H : Heap) (a : V) : readV Tryz.prog H 158 a = loadK (some (true, 2)) (obOf H a) a := readV_K Tryz.shape158 H a
@[go_sem] theorem Tryz.sz158 : szOf Tryz.prog 158 = some 2 := by kernel_rfl
@[go_sem] theorem Tryz.bytes158 : bytesV Tryz.prog 158 = some 32 := by kernel_rfl
@[go_sem] theorem Tryz.agg158 : isAggB Tryz.prog 158 = some true := by kernel_rfl
@[go_sem] theorem Tryz.zero158 : zeroC Tryz.prog 158 = some [.nils, .bool false] := by kernel_rfl
theorem Tryz.zeroV158 : zeroV Tryz.prog 158 = some (.agg [.nils, .bool false]) := by kernel_rfl
@[go_sem] theorem Tryz.bld158 (l : List (Nat × V)) : buildV Tryz.prog 158 l = (fillV (tblP [(0, 1), (1, 1)]) [.nils, .bool false] l).map .agg := buildV_K (P := Tryz.prog) (t := 158) (tbl := [(0, 1), (1, 1)]) (z := [.nils, .bool false]) (by kernel_rfl) (by kernel_rfl) l
theorem Tryz.fld158_0 : fldOf Tryz.prog 158 0 = some (0, false, 1) := by kernel_rfl
@[go_sem] theorem Tryz.fa158_0 (a : V) : fieldAddrV Tryz.prog 158 a 0 = fldK (some (0, false, 1)) a := fieldAddrV_K Tryz.fld158_0 a
@[go_sem] theorem Tryz.fv158_0 (l : List V) : fieldV Tryz.prog 158 (.agg l) 0 = partC false 1 l 0 := fieldV_K Tryz.fld158_0 l
theorem Tryz.fld158_1 : fldOf Tryz.prog 158 1 = some (1, false, 1) := by kernel_rfl
@[go_sem] theorem Tryz.fa158_1 (a : V) : fieldAddrV Tryz.prog 158 a 1 = fldK (some (1, false, 1)) a := fieldAddrV_K Tryz.fld158_1 a
@[go_sem] theorem Tryz.fv158_1 (l : List V) : fieldV Tryz.prog 158 (.agg l) 1 = partC false 1 l 1 := fieldV_K Tryz.fld158_1 l
theorem Tryz.shape164 : shapeOf Tryz.prog 164 = some (true, 3) := by kernel_rfl
@[go_sem] theorem Tryz.load164 (H : Heap) (a : V) : readV Tryz.prog H 164 a = loadK (some (true, 3)) (obOf H a) a := readV_K Tryz.shape164 H a
@[go_sem] theorem Tryz.sz164 : szOf Tryz.prog 164 = some 3 := by kernel_rfl
@[go_sem] theorem Tryz.bytes164 : bytesV Tryz.prog 164 = some 48 := by kernel_rfl
@[go_sem] theorem Tryz.agg164 : isAggB Tryz.prog 164 = some true := by kernel_rfl
@[go_sem] theorem Tryz.zero164 : zeroC Tryz.prog 164 = some [.str [], .str [], .str []] := by kernel_rfl
theorem Tryz.zeroV164 : zeroV Tryz.prog 164 = some (.agg [.str [], .str [], .str []]) := by kernel_rfl
@[go_sem] theorem Tryz.ia164 (a : V) (ik : IntKind) (n : Int) : indexAddrV Tryz.prog 164 a (.int ik n) = idxA 3 1 false a ik n := indexAddrV_A (P := Tryz.prog) (e := 9) (by kernel_rfl) (by kernel_rfl) (by kernel_rfl) (by decide) a ik n
@[go_sem] theorem Tryz.iv164 (l : List V) (ik : IntKind) (n : Int) : indexV Tryz.prog 164 (.agg l) (.int ik n) = if 0 ≤ n ∧ n < (3 : Nat) then partC false 1 l (n.toNat * 1) else none := indexV_A (P := Tryz.prog) (e := 9) (by kernel_rfl) (by kernel_rfl) (by kernel_rfl) (by decide) l ik n
@[go_sem] theorem Tryz.bla164 (l : List (Nat × V)) : buildV Tryz.prog 164 l = (fillV (mulP 1) [.str [], .str [], .str []] l).map .agg := buildV_A (P := Tryz.prog) (N := 3) (e := 9) (by kernel_rfl) (by kernel_rfl) (by kernel_rfl) l
theorem Tryz.shape165 : shapeOf Tryz.prog 165 = some (false, 1) := by kernel_rfl
@[go_sem] theorem Tryz.load165 (H : Heap) (a : V) : readV Tryz.prog H 165 a = loadK (some (false, 1)) (obOf H a) a := readV_K Tryz.shape165 H a
@[go_sem] theorem Tryz.sz165 : szOf Tryz.prog 165 = some 1 := by kernel_rfl
@[go_sem] theorem Tryz.bytes165 : bytesV Tryz.prog 165 = some 8 := by kernel_rfl
@[go_sem] theorem Tryz.agg165 : isAggB Tryz.prog 165 = some false := by kernel_rfl
@[go_sem] theorem Tryz.zero165 : zeroC Tryz.prog 165 = some [.nilp] := by kernel_rfl
theorem Tryz.shape170 : shapeOf Tryz.prog 170 = some (true, 256) := by kernel_rfl
@[go_sem] theorem Tryz.load170 (H : Heap) (a : V) : readV Tryz.prog H 170 a = loadK (some (true, 256)) (obOf H a) a := readV_K Tryz.shape170 H a
@[go_sem] theorem Tryz.sz170 : szOf Tryz.prog 170 = some 256 := by kernel_rfl
@[go_sem] theorem Tryz.bytes170 : bytesV Tryz.prog 170 = some 256 := by kernel_rfl
@[go_sem] theorem Tryz.agg170 : isAggB Tryz.prog 170 = some true := by kernel_rfl
@[go_sem] theorem Tryz.ia170 (a : V) (ik : IntKind) (n : Int) : indexAddrV Tryz.prog 170 a (.int ik n) = idxA 256 1 false a ik n := indexAddrV_A (P := Tryz.prog) (e := 4) (by kernel_rfl) (by kernel_rfl) (by kernel_rfl) (by decide) a ik n
@[go_sem] theorem Tryz.iv170 (l : List V) (ik : IntKind) (n : Int) : indexV Tryz.prog 170 (.agg l) (.int ik n) = if 0 ≤ n ∧ n < (256 : Nat) then partC false 1 l (n.toNat * 1) else none := indexV_A (P := Tryz.prog) (e := 4) (by kernel_rfl) (by kernel_rfl) (by kernel_rfl) (by decide) l ik n
theorem Tryz.shape174 : shapeOf Tryz.prog 174 = some (false, 1) := by kernel_rfl
@[go_sem] theorem Tryz.load174 (H : Heap) (a : V) : readV Tryz.prog H 174 a = loadK (some (false, 1)) (obOf H a) a := readV_K Tryz.shape174 H a
@[go_sem] theorem Tryz.sz174 : szOf Tryz.prog 174 = some 1 := by kernel_rfl
@[go_sem] theorem Tryz.bytes174 : bytesV Tryz.prog 174 = some 8 := by kernel_rfl
@[go_sem] theorem Tryz.agg174 : isAggB Tryz.prog 174 = some false := by kernel_rfl
@[go_sem] theorem Tryz.zero174 : zeroC Tryz.prog 174 = some [.nilp] := by kernel_rfl
theorem Tryz.nk174 : nilKind Tryz.prog 174 = 1 := by kernel_rfl
@[go_sem] theorem Tryz.eqn174 (a : V) : binV Tryz.prog .eql 174 a .nilp = (nilK 1 a).map .bool := (binV_nil _ _ Tryz.nk174 (by simp) a).1
@[go_sem] theorem Tryz.nen174 (a : V) : binV Tryz.prog .neq 174 a .nilp = (nilK 1 a).map fun r => .bool (!r) := (binV_nil _ _ Tryz.nk174 (by simp) a).2
theorem Tryz.shape181 : shapeOf Tryz.prog 181 = some (true, 24) := by kernel_rfl
@[go_sem] theorem Tryz.load181 (H : Heap) (a : V) : readV Tryz.prog H 181 a = loadK (some (true, 24)) (obOf H a) a := readV_K Tryz.shape181 H a
@[go_sem] theorem Tryz.sz181 : szOf Tryz.prog 181 = some 24 := by kernel_rfl
@[go_sem] theorem Tryz.bytes181 : bytesV Tryz.prog 181 = some 24 := by kernel_rfl
@[go_sem] theorem Tryz.agg181 : isAggB Tryz.prog 181 = some true := by kernel_rfl
@[go_sem] theorem Tryz.zero181 : zeroC Tryz.prog 181 = some [.int .u8 0, .int .u8 0, .int .u8 0, .int .u8 0, .int .u8 0, .int .u8 0, .int .u8 0, .int .u8 0, .int .u8 0, .int .u8 0, .int .u8 0, .int .u8 0, .int .u8 0, .int .u8 0, .int .u8 0, .int .u8 0, .int .u8 0, .int .u8 0, .int .u8 0, .int .u8 0, .int .u8 0, .int .u8 0, .int .u8 0, .int .u8 0] := by kernel_rfl
theorem Tryz.zeroV181 : zeroV Tryz.prog 181 = some (.agg [.int .u8 0, .int .u8 0, .int .u8 0, .int .u8 0, .int .u8 0, .int .u8 0, .int .u8 0, .int .u8 0, .int .u8 0, .int .u8 0, .int .u8 0, .int .u8 0, .int .u8 0, .int .u8 0, .int .u8 0, .int .u8 0, .int .u8 0, .int .u8 0, .int .u8 0, .int .u8 0, .int .u8 0, .int .u8 0, .int .u8 0, .int .u8 0]) := by kernel_rfl
@[go_sem] theorem Tryz.ia181 (a : V) (ik : IntKind) (n : Int) : indexAddrV Tryz.prog 181 a (.int ik n) = idxA 24 1 false a ik n := indexAddrV_A (P := Tryz.prog) (e := 5) (by kernel_rfl) (by kernel_rfl) (by kernel_rfl) (by decide) a ik n
@[go_sem] theorem Tryz.iv181 (l : List V) (ik : IntKind) (n : Int) : indexV Tryz.prog 181 (.agg l) (.int ik n) = if 0 ≤ n ∧ n < (24 : Nat) then partC false 1 l (n.toNat * 1) else none := indexV_A (P := Tryz.prog) (e := 5) (by kernel_rfl) (by kernel_rfl) (by kernel_rfl) (by decide) l ik n
@[go_sem] theorem Tryz.bla181 (l : List (Nat × V)) : buildV Tryz.prog 181 l = (fillV (mulP 1) [.int .u8 0, .int .u8 0, .int .u8 0, .int .u8 0, .int .u8 0, .int .u8 0, .int .u8 0, .int .u8 0, .int .u8 0, .int .u8 0, .int .u8 0, .int .u8 0, .int .u8 0, .int .u8 0, .int .u8 0, .int .u8 0, .int .u8 0, .int .u8 0, .int .u8 0, .int .u8 0, .int .u8 0, .int .u8 0, .int .u8 0, .int .u8 0] l).map .agg := buildV_A (P := Tryz.prog) (N := 24) (e := 5) (by kernel_rfl) (by kernel_rfl) (by kernel_rfl) l
theorem Tryz.shape182 : shapeOf Tryz.prog 182 = some (false, 1) := by kernel_rfl
@[go_sem] theorem Tryz.load182 (H : Heap) (a : V) : readV Tryz.prog H 182 a = loadK (some (false, 1)) (obOf H a) a := readV_K Tryz.shape182 H a
@[go_sem] theorem Tryz.sz182 : szOf Tryz.prog 182 = some 1 := by kernel_rfl
@[go_sem] theorem Tryz.bytes182 : bytesV Tryz.prog 182 = some 8 := by kernel_rfl
@[go_sem] theorem Tryz.agg182 : isAggB Tryz.prog 182 = some false := by kernel_rfl
@[go_sem] theorem Tryz.zero182 : zeroC Tryz.prog 182 = some [.int .u64 0] := by kernel_rfl
theorem Tryz.shape189 : shapeOf Tryz.prog 189 = some (false, 1) := by kernel_rfl
@[go_sem] theorem Tryz.load189 (H : Heap) (a : V) : readV Tryz.prog H 189 a = loadK (some (false, 1)) (obOf H a) a := readV_K Tryz.shape189 H a
@[go_sem] theorem Tryz.sz189 : szOf Tryz.prog 189 = some 1 := by kernel_rfl
@[go_sem] theorem Tryz.bytes189 : bytesV Tryz.prog 189 = some 8 := by kernel_rfl
@[go_sem] theorem Tryz.agg189 : isAggB Tryz.prog 189 = some false := by kernel_rfl
@[go_sem] theorem Tryz.zero189 : zeroC Tryz.prog 189 = some [.int .u64 0] := by kernel_rfl
theorem Tryz.shape195 : shapeOf Tryz.prog 195 = some (false, 1) := by kernel_rfl
@[go_sem] theorem Tryz.load195 (H : Heap) (a : V) : readV Tryz.prog H 195 a = loadK (some (false, 1)) (obOf H a) a := readV_K Tryz.shape195 H a
@[go_sem] theorem Tryz.sz195 : szOf Tryz.prog 195 = some 1 := by kernel_rfl
@[go_sem] theorem Tryz.bytes195 : bytesV Tryz.prog 195 = some 16 := by kernel_rfl
@[go_sem] theorem Tryz.agg195 : isAggB Tryz.prog 195 = some false := by kernel_rfl
@[go_sem] theorem Tryz.zero195 : zeroC Tryz.prog 195 = some [.nili] := by kernel_rfl
theorem Tryz.nk195 : nilKind Tryz.prog 195 = 4 := by kernel_rfl
@[go_sem] theorem Tryz.eqn195 (a : V) : binV Tryz.prog .eql 195 a .nili = (nilK 4 a).map .bool := (binV_nil _ _ Tryz.nk195 (by simp) a).1
@[go_sem] theorem Tryz.nen195 (a : V) : binV Tryz.prog .neq 195 a .nili = (nilK 4 a).map fun r => .bool (!r) := (binV_nil _ _ Tryz.nk195 (by simp) a).2
theorem Tryz.shape201 : shapeOf Tryz.prog 201 = some (true, 20) := by kernel_rfl
@[go_sem] theorem Tryz.load201 (H : Heap) (a : V) : readV Tryz.prog H 201 a = loadK (some (true, 20)) (obOf H a) a := readV_K Tryz.shape201 H a
@[go_sem] theorem Tryz.sz201 : szOf Tryz.prog 201 = some 20 := by kernel_rfl
@[go_sem] theorem Tryz.bytes201 : bytesV Tryz.prog 201 = some 160 := by kernel_rfl
@[go_sem] theorem Tryz.agg201 : isAggB Tryz.prog 201 = some true := by kernel_rfl
@[go_sem] theorem Tryz.zero201 : zeroC Tryz.prog 201 = some [.int .u64 0, .int .u64 0, .int .u64 0, .int .u64 0, .int .u64 0, .int .u64 0, .int .u64 0, .int .u64 0, .int .u64 0, .int .u64 0, .int .u64 0, .int .u64 0, .int .u64 0, .int .u64 0, .int .u64 0, .int .u64 0, .int .u64 0, .int .u64 0, .int .u64 0, .int .u64 0] := by kernel_rfl
theorem Tryz.zeroV201 : zeroV Tryz.prog 201 = some (.agg [.int .u64 0, .int .u64 0, .int .u64 0, .int .u64 0, .int .u64 0, .int .u64 0, .int .u64 0, .int .u64 0, .int .u64 0, .int .u64 0, .int .u64 0, .int .u64 0, .int .u64 0, .int .u64 0, .int .u64 0, .int .u64 0, .int .u64 0, .int .u64 0, .int .u64 0, .int .u64 0]) := by kernel_rfl
@[go_sem] theorem Tryz.ia201 (a : V) (ik : IntKind) (n : Int) : indexAddrV Tryz.prog 201 a (.int ik n) = idxA 20 1 false a ik n := indexAddrV_A (P := Tryz.prog) (e := 182) (by kernel_rfl) (by kernel_rfl) (by kernel_rfl) (by decide) a ik n
@[go_sem] theorem Tryz.iv201 (l : List V) (ik : IntKind) (n : Int) : indexV Tryz.prog 201 (.agg l) (.int ik n) = if 0 ≤ n ∧ n < (20 : Nat) then partC false 1 l (n.toNat * 1) else none := indexV_A (P := Tryz.prog) (e := 182) (by kernel_rfl) (by kernel_rfl) (by kernel_rfl) (by decide) l ik n
@[go_sem] theorem Tryz.bla201 (l : List (Nat × V)) : buildV Tryz.prog 201 l = (fillV (mulP 1) [.int .u64 0, .int .u64 0, .int .u64 0, .int .u64 0, .int .u64 0, .int .u64 0, .int .u64 0, .int .u64 0, .int .u64 0, .int .u64 0, .int .u64 0, .int .u64 0, .int .u64 0, .int .u64 0, .int .u64 0, .int .u64 0, .int .u64 0, .int .u64 0, .int .u64 0, .int .u64 0] l).map .agg := buildV_A (P := Tryz.prog) (N := 20) (e := 182) (by kernel_rfl) (by kernel_rfl) (by kernel_rfl) l
theorem Tryz.shape202 : shapeOf Tryz.prog 202 = some (false, 1) := by kernel_rfl
@[go_sem] theorem Tryz.load202 (H : Heap) (a : V) : readV Tryz.prog H 202 a = loadK (some (false, 1)) (obOf H a) a := readV_K Tryz.shape202 H a
@[go_sem] theorem Tryz.sz202 : szOf Tryz.prog 202 = some 1 := by kernel_rfl
@[go_sem] theorem Tryz.bytes202 : bytesV Tryz.prog 202 = some 4 := by kernel_rfl
@[go_sem] theorem Tryz.agg202 : isAggB Tryz.prog 202 = some false := by kernel_rfl
@[go_sem] theorem Tryz.zero202 : zeroC Tryz.prog 202 = some [.int .u32 0] := by kernel_rfl
theorem Tryz.shape203 : shapeOf Tryz.prog 203 = some (true, 65) := by kernel_rfl
@[go_sem] theorem Tryz.load203 (H : Heap) (a : V) : readV Tryz.prog H 203 a = loadK (some (true, 65)) (obOf H a) a := readV_K Tryz.shape203 H a
@[go_sem] theorem Tryz.sz203 : szOf Tryz.prog 203 = some 65 := by kernel_rfl
@[go_sem] theorem Tryz.bytes203 : bytesV Tryz.prog 203 = some 65 := by kernel_rfl
@[go_sem] theorem Tryz.agg203 : isAggB Tryz.prog 203 = some true := by kernel_rfl
@[go_sem] theorem Tryz.ia203 (a : V) (ik : IntKind) (n : Int) : indexAddrV Tryz.prog 203 a (.int ik n) = idxA 65 1 false a ik n := indexAddrV_A (P := Tryz.prog) (e := 5) (by kernel_rfl) (by kernel_rfl) (by kernel_rfl) (by decide) a ik n
@[go_sem] theorem Tryz.iv203 (l : List V) (ik : IntKind) (n : Int) : indexV Tryz.prog 203 (.agg l) (.int ik n) = if 0 ≤ n ∧ n < (65 : Nat) then partC false 1 l (n.toNat * 1) else none := indexV_A (P := Tryz.prog) (e := 5) (by kernel_rfl) (by kernel_rfl) (by kernel_rfl) (by decide) l ik n
theorem Tryz.shape208 : shapeOf Tryz.prog 208 = some (false, 1) := by kernel_rfl
@[go_sem] theorem Tryz.load208 (H : Heap) (a : V) : readV Tryz.prog H 208 a = loadK (some (false, 1)) (obOf H a) a := readV_K Tryz.shape208 H a
@[go_sem] theorem Tryz.sz208 : szOf Tryz.prog 208 = some 1 := by kernel_rfl
@[go_sem] theorem Tryz.bytes208 : bytesV Tryz.prog 208 = some 8 := by kernel_rfl
@[go_sem] theorem Tryz.agg208 : isAggB Tryz.prog 208 = some false := by kernel_rfl
@[go_sem] theorem Tryz.zero208 : zeroC Tryz.prog 208 = some [.int .i64 0] := by kernel_rfl
theorem Tryz.shape211 : shapeOf Tryz.prog 211 = some (false, 1) := by kernel_rfl
@[go_sem] theorem Tryz.load211 (H : Heap) (a : V) : readV Tryz.prog H 211 a = loadK (some (false, 1)) (obOf H a) a := readV_K Tryz.shape211 H a
@[go_sem] theorem Tryz.sz211 : szOf Tryz.prog 211 = some 1 := by kernel_rfl
@[go_sem] theorem Tryz.bytes211 : bytesV Tryz.prog 211 = some 8 := by kernel_rfl
@[go_sem] theorem Tryz.agg211 : isAggB Tryz.prog 211 = some false := by kernel_rfl
@[go_sem] theorem Tryz.zero211 : zeroC Tryz.prog 211 = some [.nilp] := by kernel_rfl
theorem Tryz.nk211 : nilKind Tryz.prog 211 = 1 := by kernel_rfl
@[go_sem] theorem Tryz.eqn211 (a : V) : binV Tryz.prog .eql 211 a .nilp = (nilK 1 a).map .bool := (binV_nil _ _ Tryz.nk211 (by simp) a).1
@[go_sem] theorem Tryz.nen211 (a : V) : binV Tryz.prog .neq 211 a .nilp = (nilK 1 a).map fun r => .bool (!r) := (binV_nil _ _ Tryz.nk211 (by simp) a).2
theorem Tryz.shape215 : shapeOf Tryz.prog 215 = some (true, 1) := by kernel_rfl
@[go_sem] theorem Tryz.load215 (H : Heap) (a : V) : readV Tryz.prog H 215 a = loadK (some (true, 1)) (obOf H a) a := readV_K Tryz.shape215 H a
@[go_sem] theorem Tryz.sz215 : szOf Tryz.prog 215 = some 1 := by kernel_rfl
@[go_sem] theorem Tryz.bytes215 : bytesV Tryz.prog 215 = some 8 := by kernel_rfl
@[go_sem] theorem Tryz.agg215 : isAggB Tryz.prog 215 = some true := by kernel_rfl
@[go_sem] theorem Tryz.zero215 : zeroC Tryz.prog 215 = some [.nilp] := by kernel_rfl
theorem Tryz.zeroV215 : zeroV Tryz.prog 215 = some (.agg [.nilp]) := by kernel_rfl
@[go_sem] theorem Tryz.bld215 (l : List (Nat × V)) : buildV Tryz.prog 215 l = (fillV (tblP [(0, 1)]) [.nilp] l).map .agg := buildV_K (P := Tryz.prog) (t := 215) (tbl := [(0, 1)]) (z := [.nilp]) (by kernel_rfl) (by kernel_rfl) l
theorem Tryz.fld215_0 : fldOf Tryz.prog 215 0 = some (0, false, 1) := by kernel_rfl
@[go_sem] theorem Tryz.fa215_0 (a : V) : fieldAddrV Tryz.prog 215 a 0 = fldK (some (0, false, 1)) a := fieldAddrV_K Tryz.fld215_0 a
@[go_sem] theorem Tryz.fv215_0 (l : List V) : fieldV Tryz.prog 215 (.agg l) 0 = partC false 1 l 0 := fieldV_K Tryz.fld215_0 l
theorem Tryz.shape226 : shapeOf Tryz.prog 226 = some (true, 256) := by kernel_rfl
@[go_sem] theorem Tryz.load226 (H : Heap) (a : V) : readV Tryz.prog H 226 a = loadK (some (true, 256)) (obOf H a) a := readV_K Tryz.shape226 H a
@[go_sem] theorem Tryz.sz226 : szOf Tryz.prog 226 = some 256 := by kernel_rfl
@[go_sem] theorem Tryz.bytes226 : bytesV Tryz.prog 226 = some 256 := by kernel_rfl
@[go_sem] theorem Tryz.agg226 : isAggB Tryz.prog 226 = some true := by kernel_rfl
@[go_sem] theorem Tryz.ia226 (a : V) (ik : IntKind) (n : Int) : indexAddrV Tryz.prog 226 a (.int ik n) = idxA 256 1 false a ik n := indexAddrV_A (P := Tryz.prog) (e := 5) (by kernel_rfl) (by kernel_rfl) (by kernel_rfl) (by decide) a ik n
@[go_sem] theorem Tryz.iv226 (l : List V) (ik : IntKind) (n : Int) : indexV Tryz.prog 226 (.agg l) (.int ik n) = if 0 ≤ n ∧ n < (256 : Nat) then partC false 1 l (n.toNat * 1) else none := indexV_A (P := Tryz.prog) (e := 5) (by kernel_rfl) (by kernel_rfl) (by kernel_rfl) (by decide) l ik n
theorem Tryz.shape228 : shapeOf Tryz.prog 228 = some (true, 2) := by kernel_rfl
@[go_sem] theorem Tryz.load228 (H : Heap) (a : V) : readV Tryz.prog H 228 a = loadK (some (true, 2)) (obOf H a) a := readV_K Tryz.shape228 H a
@[go_sem] theorem Tryz.sz228 : szOf Tryz.prog 228 = some 2 := by kernel_rfl
@[go_sem] theorem Tryz.bytes228 : bytesV Tryz.prog 228 = some 2 := by kernel_rfl
@[go_sem] theorem Tryz.agg228 : isAggB Tryz.prog 228 = some true := by kernel_rfl
@[go_sem] theorem Tryz.zero228 : zeroC Tryz.prog 228 = some [.int .u8 0, .int .u8 0] := by kernel_rfl
theorem Tryz.zeroV228 : zeroV Tryz.prog 228 = some (.agg [.int .u8 0, .int .u8 0]) := by kernel_rfl
@[go_sem] theorem Tryz.bld228 (l : List (Nat × V)) : buildV Tryz.prog 228 l = (fillV (tblP [(0, 1), (1, 1)]) [.int .u8 0, .int .u8 0] l).map .agg := buildV_K (P := Tryz.prog) (t := 228) (tbl := [(0, 1), (1, 1)]) (z := [.int .u8 0, .int .u8 0]) (by kernel_rfl) (by kernel_rfl) l
theorem Tryz.fld228_0 : fldOf Tryz.prog 228 0 = some (0, false, 1) := by kernel_rfl
@[go_sem] theorem Tryz.fa228_0 (a : V) : fieldAddrV Tryz.prog 228 a 0 = fldK (some (0, false, 1)) a := fieldAddrV_K Tryz.fld228_0 a
@[go_sem] theorem Tryz.fv228_0 (l : List V) : fieldV Tryz.prog 228 (.agg l) 0 = partC false 1 l 0 := fieldV_K Tryz.fld228_0 l
theorem Tryz.fld228_1 : fldOf Tryz.prog 228 1 = some (1, false, 1) := by kernel_rfl
@[go_sem] theorem Tryz.fa228_1 (a : V) : fieldAddrV Tryz.prog 228 a 1 = fldK (some (1, false, 1)) a := fieldAddrV_K Tryz.fld228_1 a
@[go_sem] theorem Tryz.fv228_1 (l : List V) : fieldV Tryz.prog 228 (.agg l) 1 = partC false 1 l 1 := fieldV_K Tryz.fld228_1 l
theorem Tryz.shape229 : shapeOf Tryz.prog 229 = some (true, 32) := by kernel_rfl
@[go_sem] theorem Tryz.load229 (H : Heap) (a : V) : readV Tryz.prog H 229 a = loadK (some (true, 32)) (obOf H a) a := readV_K Tryz.shape229 H a
@[go_sem] theorem Tryz.sz229 : szOf Tryz.prog 229 = some 32 := by kernel_rfl
@[go_sem] theorem Tryz.bytes229 : bytesV Tryz.prog 229 = some 32 := by kernel_rfl
@[go_sem] theorem Tryz.agg229 : isAggB Tryz.prog 229 = some true := by kernel_rfl
@[go_sem] theorem Tryz.zero229 : zeroC Tryz.prog 229 = some [.int .u8 0, .int .u8 0, .int .u8 0, .int .u8 0, .int .u8 0, .int .u8 0, .int .u8 0, .int .u8 0, .int .u8 0, .int .u8 0, .int .u8 0, .int .u8 0, .int .u8 0, .int .u8 0, .int .u8 0, .int .u8 0, .int .u8 0, .int .u8 0, .int .u8 0, .int .u8 0, .int .u8 0, .int .u8 0, .int .u8 0, .int .u8 0, .int .u8 0, .int .u8 0, .int .u8 0, .int .u8 0, .int .u8 0, .int .u8 0, .int .u8 0, .int .u8 0] := by kernel_rfl
theorem Tryz.zeroV229 : zeroV Tryz.prog 229 = some (.agg [.int .u8 0, .int .u8 0, .int .u8 0, .int .u8 0, .int .u8 0, .int .u8 0, .int .u8 0, .int .u8 0, .int .u8 0, .int .u8 0, .int .u8 0, .int .u8 0, .int .u8 0, .int .u8 0, .int .u8 0, .int .u8 0, .int .u8 0, .int .u8 0, .int .u8 0, .int .u8 0, .int .u8 0, .int .u8 0, .int .u8 0, .int .u8 0, .int .u8 0, .int .u8 0, .int .u8 0, .int .u8 0, .int .u8 0, .int .u8 0, .int .u8 0, .int .u8 0]) := by kernel_rfl
@[go_sem] theorem Tryz.ia229 (a : V) (ik : IntKind) (n : Int) : indexAddrV Tryz.prog 229 a (.int ik n) = idxA 16 2 true a ik n := indexAddrV_A (P := Tryz.prog) (e := 228) (by kernel_rfl) (by kernel_rfl) (by kernel_rfl) (by decide) a ik n
@[go_sem] theorem Tryz.iv229 (l : List V) (ik : IntKind) (n : Int) : indexV Tryz.prog 229 (.agg l) (.int ik n) = if 0 ≤ n ∧ n < (16 : Nat) then partC true 2 l (n.toNat * 2) else none := indexV_A (P := Tryz.prog) (e := 228) (by kernel_rfl) (by kernel_rfl) (by kernel_rfl) (by decide) l ik n
@[go_sem] theorem Tryz.bla229 (l : List (Nat × V)) : buildV Tryz.prog 229 l = (fillV (mulP 2) [.int .u8 0, .int .u8 0, .int .u8 0, .int .u8 0, .int .u8 0, .int .u8 0, .int .u8 0, .int .u8 0, .int .u8 0, .int .u8 0, .int .u8 0, .int .u8 0, .int .u8 0, .int .u8 0, .int .u8 0, .int .u8 0, .int .u8 0, .int .u8 0, .int .u8 0, .int .u8 0, .int .u8 0, .int .u8 0, .int .u8 0, .int .u8 0, .int .u8 0, .int .u8 0, .int .u8 0, .int .u8 0, .int .u8 0, .int .u8 0, .int .u8 0, .int .u8 0] l).map .agg := buildV_A (P := Tryz.prog) (N := 16) (e := 228) (by kernel_rfl) (by kernel_rfl) (by kernel_rfl) l
theorem Tryz.shape234 : shapeOf Tryz.prog 234 = some (true, 3) := by kernel_rfl
@[go_sem] theorem Tryz.load234 (H : Heap) (a : V) : readV Tryz.prog H 234 a = loadK (some (true, 3)) (obOf H a) a := readV_K Tryz.shape234 H a
@[go_sem] theorem Tryz.sz234 : szOf Tryz.prog 234 = some 3 := by kernel_rfl
@[go_sem] theorem Tryz.bytes234 : bytesV Tryz.prog 234 = some 48 := by kernel_rfl
@[go_sem] theorem Tryz.agg234 : isAggB Tryz.prog 234 = some true := by kernel_rfl
@[go_sem] theorem Tryz.zero234 : zeroC Tryz.prog 234 = some [.str [], .str [], .nili] := by kernel_rfl
theorem Tryz.zeroV234 : zeroV Tryz.prog 234 = some (.agg [.str [], .str [], .nili]) := by kernel_rfl
@[go_sem] theorem Tryz.bld234 (l : List (Nat × V)) : buildV Tryz.prog 234 l = (fillV (tblP [(0, 1), (1, 1), (2, 1)]) [.str [], .str [], .nili] l).map .agg := buildV_K (P := Tryz.prog) (t := 234) (tbl := [(0, 1), (1, 1), (2, 1)]) (z := [.str [], .str [], .nili]) (by kernel_rfl) (by kernel_rfl) l
theorem Tryz.fld234_0 : fldOf Tryz.prog 234 0 = some (0, false, 1) := by kernel_rfl
@[go_sem] theorem Tryz.fa234_0 (a : V) : fieldAddrV Tryz.prog 234 a 0 = fldK (some (0, false, 1)) a := fieldAddrV_K Tryz.fld234_0 a
@[go_sem] theorem Tryz.fv234_0 (l : List V) : fieldV Tryz.prog 234 (.agg l) 0 = partC false 1 l 0 := fieldV_K Tryz.fld234_0 l
theorem Tryz.fld234_1 : fldOf Tryz.prog 234 1 = some (1, false, 1) := by kernel_rfl
@[go_sem] theorem Tryz.fa234_1 (a : V) : fieldAddrV Tryz.prog 234 a 1 = fldK (some (1, false, 1)) a := fieldAddrV_K Tryz.fld234_1 a
@[go_sem] theorem Tryz.fv234_1 (l : List V) : fieldV Tryz.prog 234 (.agg l) 1 = partC false 1 l 1 := fieldV_K Tryz.fld234_1 l
theorem Tryz.fld234_2 : fldOf Tryz.prog 234 2 = some (2, false, 1) := by kernel_rfl
@[go_sem] theorem Tryz.fa234_2 (a : V) : fieldAddrV Tryz.prog 234 a 2 = fldK (some (2, false, 1)) a := fieldAddrV_K Tryz.fld234_2 a
@[go_sem] theorem Tryz.fv234_2 (l : List V) : fieldV Tryz.prog 234 (.agg l) 2 = partC false 1 l 2 := fieldV_K Tryz.fld234_2 l
theorem Tryz.shape236 : shapeOf Tryz.prog 236 = some (true, 32) := by kernel_rfl
@[go_sem] theorem Tryz.load236 (H : Heap) (a : V) : readV Tryz.prog H 236 a = loadK (some (true, 32)) (obOf H a) a := readV_K Tryz.shape236 H a
@[go_sem] theorem Tryz.sz236 : szOf Tryz.prog 236 = some 32 := by kernel_rfl
@[go_sem] theorem Tryz.bytes236 : bytesV Tryz.prog 236 = some 32 := by kernel_rfl
@[go_sem] theorem Tryz.agg236 : isAggB Tryz.prog 236 = some true := by kernel_rfl
@[go_sem] theorem Tryz.zero236 : zeroC Tryz.prog 236 = some [.int .u8 0, .int .u8 0, .int .u8 0, .int .u8 0, .int .u8 0, .int .u8 0, .int .u8 0, .int .u8 0, .int .u8 0, .int .u8 0, .int .u8 0, .int .u8 0, .int .u8 0, .int .u8 0, .int .u8 0, .int .u8 0, .int .u8 0, .int .u8 0, .int .u8 0, .int .u8 0, .int .u8 0, .int .u8 0, .int .u8 0, .int .u8 0, .int .u8 0, .int .u8 0, .int .u8 0, .int .u8 0, .int .u8 0, .int .u8 0, .int .u8 0, .int .u8 0] := by kernel_rfl
theorem Tryz.zeroV236 : zeroV Tryz.prog 236 = some (.agg [.int .u8 0, .int .u8 0, .int .u8 0, .int .u8 0, .int .u8 0, .int .u8 0, .int .u8 0, .int .u8 0, .int .u8 0, .int .u8 0, .int .u8 0, .int .u8 0, .int .u8 0, .int .u8 0, .int .u8 0, .int .u8 0, .int .u8 0, .int .u8 0, .int .u8 0, .int .u8 0, .int .u8 0, .int .u8 0, .int .u8 0, .int .u8 0, .int .u8 0, .int .u8 0, .int .u8 0, .int .u8 0, .int .u8 0, .int .u8 0, .int .u8 0, .int .u8 0]) := by kernel_rfl
@[go_sem] theorem Tryz.ia236 (a : V) (ik : IntKind) (n : Int) : indexAddrV Tryz.prog 236 a (.int ik n) = idxA 32 1 false a ik n := indexAddrV_A (P := Tryz.prog) (e := 5) (by kernel_rfl) (by kernel_rfl) (by kernel_rfl) (by decide) a ik n
@[go_sem] theorem Tryz.iv236 (l : List V) (ik : IntKind) (n : Int) : indexV Tryz.prog 236 (.agg l) (.int ik n) = if 0 ≤ n ∧ n < (32 : Nat) then partC false 1 l (n.toNat * 1) else none := indexV_A (P := Tryz.prog) (e := 5) (by kernel_rfl) (by kernel_rfl) (by kernel_rfl) (by decide) l ik n
@[go_sem] theorem Tryz.bla236 (l : List (Nat × V)) : buildV Tryz.prog 236 l = (fillV (mulP 1) [.int .u8 0, .int .u8 0, .int .u8 0, .int .u8 0, .int .u8 0, .int .u8 0, .int .u8 0, .int .u8 0, .int .u8 0, .int .u8 0, .int .u8 0, .int .u8 0, .int .u8 0, .int .u8 0, .int .u8 0, .int .u8 0, .int .u8 0, .int .u8 0, .int .u8 0, .int .u8 0, .int .u8 0, .int .u8 0, .int .u8 0, .int .u8 0, .int .u8 0, .int .u8 0, .int .u8 0, .int .u8 0, .int .u8 0, .int .u8 0, .int .u8 0, .int .u8 0] l).map .agg := buildV_A (P := Tryz.prog) (N := 32) (e := 5) (by kernel_rfl) (by kernel_rfl) (by kernel_rfl) l
theorem Tryz.shape237 : shapeOf Tryz.prog 237 = some (true, 64) := by kernel_rfl
@[go_sem] theorem Tryz.load237 (H : Heap) (a : V) : readV Tryz.prog H 237 a = loadK (some (true, 64)) (obOf H a) a := readV_K Tryz.shape237 H a
@[go_sem] theorem Tryz.sz237 : szOf Tryz.prog 237 = some 64 := by kernel_rfl
@[go_sem] theorem Tryz.bytes237 : bytesV Tryz.prog 237 = some 64 := by kernel_rfl
@[go_sem] theorem Tryz.agg237 : isAggB Tryz.prog 237 = some true := by kernel_rfl
@[go_sem] theorem Tryz.zero237 : zeroC Tryz.prog 237 = some (.int .u8 0 :: .int .u8 0 :: .int .u8 0 :: .int .u8 0 :: .int .u8 0 :: .int .u8 0 :: .int .u8 0 :: .int .u8 0 :: .int .u8 0 :: .int .u8 0 :: .int .u8 0 :: .int .u8 0 :: .int .u8 0 :: .int .u8 0 :: .int .u8 0 :: .int .u8 0 :: .int .u8 0 :: .int .u8 0 :: .int .u8 0 :: .int .u8 0 :: .int .u8 0 :: .int .u8 0 :: .int .u8 0 :: .int .u8 0 :: .int .u8 0 :: .int .u8 0 :: .int .u8 0 :: .int .u8 0 :: .int .u8 0 :: .int .u8 0 :: .int .u8 0 :: .int .u8 0 :: .int .u8 0 :: .int .u8 0 :: .int .u8 0 :: .int .u8 0 :: .int .u8 0 :: .int .u8 0 :: .int .u8 0 :: .int .u8 0 :: .int .u8 0 :: .int .u8 0 :: .int .u8 0 :: .int .u8 0 :: .int .u8 0 :: .int .u8 0 :: .int .u8 0 :: .int .u8 0 :: .int .u8 0 :: .int .u8 0 :: .int .u8 0 :: .int .u8 0 :: .int .u8 0 :: .int .u8 0 :: .int .u8 0 :: .int .u8 0 :: .int .u8 0 :: .int .u8 0 :: .int .u8 0 :: .int .u8 0 :: .int .u8 0 :: .int .u8 0 :: .int .u8 0 :: .int .u8 0 :: []) := by kernel_rfl
theorem Tryz.zeroV237 : zeroV Tryz.prog 237 = some (.agg (.int .u8 0 :: .int .u8 0 :: .int .u8 0 :: .int .u8 0 :: .int .u8 0 :: .int .u8 0 :: .int .u8 0 :: .int .u8 0 :: .int .u8 0 :: .int .u8 0 :: .int .u8 0 :: .int .u8 0 :: .int .u8 0 :: .int .u8 0 :: .int .u8 0 :: .int .u8 0 :: .int .u8 0 :: .int .u8 0 :: .int .u8 0 :: .int .u8 0 :: .int .u8 0 :: .int .u8 0 :: .int .u8 0 :: .int .u8 0 :: .int .u8 0 :: .int .u8 0 :: .int .u8 0 :: .int .u8 0 :: .int .u8 0 :: .int .u8 0 :: .int .u8 0 :: .int .u8 0 :: .int .u8 0 :: .int .u8 0 :: .int .u8 0 :: .int .u8 0 :: .int .u8 0 :: .int .u8 0 :: .int .u8 0 :: .int .u8 0 :: .int .u8 0 :: .int .u8 0 :: .int .u8 0 :: .int .u8 0 :: .int .u8 0 :: .int .u8 0 :: .int .u8 0 :: .int .u8 0 :: .int .u8 0 :: .int .u8 0 :: .int .u8 0 :: .int .u8 0 :: .int .u8 0 :: .int .u8 0 :: .int .u8 0 :: .int .u8 0 :: .int .u8 0 :: .int .u8 0 :: .int .u8 0 :: .int .u8 0 :: .int .u8 0 :: .int .u8 0 :: .int .u8 0 :: .int .u8 0 :: [])) := by kernel_rfl
@[go_sem] theorem Tryz.ia237 (a : V) (ik : IntKind) (n : Int) : indexAddrV Tryz.prog 237 a (.int ik n) = idxA 64 1 false a ik n := indexAddrV_A (P := Tryz.prog) (e := 5) (by kernel_rfl) (by kernel_rfl) (by kernel_rfl) (by decide) a ik n
@[go_sem] theorem Tryz.iv237 (l : List V) (ik : IntKind) (n : Int) : indexV Tryz.prog 237 (.agg l) (.int ik n) = if 0 ≤ n ∧ n < (64 : Nat) then partC false 1 l (n.toNat * 1) else none := indexV_A (P := Tryz.prog) (e := 5) (by kernel_rfl) (by kernel_rfl) (by kernel_rfl) (by decide) l ik n
@[go_sem] theorem Tryz.bla237 (l : List (Nat × V)) : buildV Tryz.prog 237 l = (fillV (mulP 1) (.int .u8 0 :: .int .u8 0 :: .int .u8 0 :: .int .u8 0 :: .int .u8 0 :: .int .u8 0 :: .int .u8 0 :: .int .u8 0 :: .int .u8 0 :: .int .u8 0 :: .int .u8 0 :: .int .u8 0 :: .int .u8 0 :: .int .u8 0 :: .int .u8 0 :: .int .u8 0 :: .int .u8 0 :: .int .u8 0 :: .int .u8 0 :: .int .u8 0 :: .int .u8 0 :: .int .u8 0 :: .int .u8 0 :: .int .u8 0 :: .int .u8 0 :: .int .u8 0 :: .int .u8 0 :: .int .u8 0 :: .int .u8 0 :: .int .u8 0 :: .int .u8 0 :: .int .u8 0 :: .int .u8 0 :: .int .u8 0 :: .int .u8 0 :: .int .u8 0 :: .int .u8 0 :: .int .u8 0 :: .int .u8 0 :: .int .u8 0 :: .int .u8 0 :: .int .u8 0 :: .int .u8 0 :: .int .u8 0 :: .int .u8 0 :: .int .u8 0 :: .int .u8 0 :: .int .u8 0 :: .int .u8 0 :: .int .u8 0 :: .int .u8 0 :: .int .u8 0 :: .int .u8 0 :: .int .u8 0 :: .int .u8 0 :: .int .u8 0 :: .int .u8 0 :: .int .u8 0 :: .int .u8 0 :: .int .u8 0 :: .int .u8 0 :: .int .u8 0 :: .int .u8 0 :: .int .u8 0 :: []) l).map .agg := buildV_A (P := Tryz.prog) (N := 64) (e := 5) (by kernel_rfl) (by kernel_rfl) (by kernel_rfl) l
theorem Tryz.shape238 : shapeOf Tryz.prog 238 = some (false, 1) := by kernel_rfl
@[go_sem] theorem Tryz.load238 (H : Heap) (a : V) : readV Tryz.prog H 238 a = loadK (some (false, 1)) (obOf H a) a := readV_K Tryz.shape238 H a
@[go_sem] theorem Tryz.sz238 : szOf Tryz.prog 238 = some 1 := by kernel_rfl
@[go_sem] theorem Tryz.bytes238 : bytesV Tryz.prog 238 = some 8 := by kernel_rfl
@[go_sem] theorem Tryz.agg238 : isAggB Tryz.prog 238 = some false := by kernel_rfl
@[go_sem] theorem Tryz.zero238 : zeroC Tryz.prog 238 = some [.nilp] := by kernel_rfl
theorem Tryz.nk238 : nilKind Tryz.prog 238 = 1 := by kernel_rfl
@[go_sem] theorem Tryz.eqn238 (a : V) : binV Tryz.prog .eql 238 a .nilp = (nilK 1 a).map .bool := (binV_nil _ _ Tryz.nk238 (by simp) a).1
@[go_sem] theorem Tryz.nen238 (a : V) : binV Tryz.prog .neq 238 a .nilp = (nilK 1 a).map fun r => .bool (!r) := (binV_nil _ _ Tryz.nk238 (by simp) a).2
theorem Tryz.shape240 : shapeOf Tryz.prog 240 = some (true, 1) := by kernel_rfl
@[go_sem] theorem Tryz.load240 (H : Heap) (a : V) : readV Tryz.prog H 240 a = loadK (some (true, 1)) (obOf H a) a := readV_K Tryz.shape240 H a
@[go_sem] theorem Tryz.sz240 : szOf Tryz.prog 240 = some 1 := by kernel_rfl
@[go_sem] theorem Tryz.bytes240 : bytesV Tryz.prog 240 = some 16 := by kernel_rfl
@[go_sem] theorem Tryz.agg240 : isAggB Tryz.prog 240 = some true := by kernel_rfl
@[go_sem] theorem Tryz.zero240 : zeroC Tryz.prog 240 = some [.str []] := by kernel_rfl
theorem Tryz.zeroV240 : zeroV Tryz.prog 240 = some (.agg [.str []]) := by kernel_rfl
@[go_sem] theorem Tryz.bld240 (l : List (Nat × V)) : buildV Tryz.prog 240 l = (fillV (tblP [(0, 1)]) [.str []] l).map .agg := buildV_K (P := Tryz.prog) (t := 240) (tbl := [(0, 1)]) (z := [.str []]) (by kernel_rfl) (by kernel_rfl) l
theorem Tryz.fld240_0 : fldOf Tryz.prog 240 0 = some (0, false, 1) := by kernel_rfl
@[go_sem] theorem Tryz.fa240_0 (a : V) : fieldAddrV Tryz.prog 240 a 0 = fldK (some (0, false, 1)) a := fieldAddrV_K Tryz.fld240_0 a
@[go_sem] theorem Tryz.fv240_0 (l : List V) : fieldV Tryz.prog 240 (.agg l) 0 = partC false 1 l 0 := fieldV_K Tryz.fld240_0 l
@[go_sem] theorem Tryz.cv2_3 (k : IntKind) (n : Int) : convV Tryz.prog 2 3 (.int k n) = some (.int .i64 (IntKind.wrap .i64 n)) := conv_int (P := Tryz.prog) (s := 2) (d := 3) (by kernel_rfl) (by kernel_rfl) k n
@[go_sem] theorem Tryz.cv2_5 (k : IntKind) (n : Int) : convV Tryz.prog 2 5 (.int k n) = some (.int .u8 (IntKind.wrap .u8 n)) := conv_int (P := Tryz.prog) (s := 2) (d := 5) (by kernel_rfl) (by kernel_rfl) k n
@[go_sem] theorem Tryz.cv2_21 (k : IntKind) (n : Int) : convV Tryz.prog 2 21 (.int k n) = some (.int .i32 (IntKind.wrap .i32 n)) := conv_int (P := Tryz.prog) (s := 2) (d := 21) (by kernel_rfl) (by kernel_rfl) k n
@[go_sem] theorem Tryz.cv2_29 (k : IntKind) (n : Int) : convV Tryz.prog 2 29 (.int k n) = some (.int .i64 (IntKind.wrap .i64 n)) := conv_int (P := Tryz.prog) (s := 2) (d := 29) (by kernel_rfl) (by kernel_rfl) k n
@[go_sem] theorem Tryz.cv2_182 (k : IntKind) (n : Int) : convV Tryz.prog 2 182 (.int k n) = some (.int .u64 (IntKind.wrap .u64 n)) := conv_int (P := Tryz.prog) (s := 2) (d := 182) (by kernel_rfl) (by kernel_rfl) k n
@[go_sem] theorem Tryz.cv2_189 (k : IntKind) (n : Int) : convV Tryz.prog 2 189 (.int k n) = some (.int .u64 (IntKind.wrap .u64 n)) := conv_int (P := Tryz.prog) (s := 2) (d := 189) (by kernel_rfl) (by kernel_rfl) k n
@[go_sem] theorem Tryz.cv2_202 (k : IntKind) (n : Int) : convV Tryz.prog 2 202 (.int k n) = some (.int .u32 (IntKind.wrap .u32 n)) := conv_int (P := Tryz.prog) (s := 2) (d := 202) (by kernel_rfl) (by kernel_rfl) k n
@[go_sem] theorem Tryz.cv2_208 (k : IntKind) (n : Int) : convV Tryz.prog 2 208 (.int k n) = some (.int .i64 (IntKind.wrap .i64 n)) := conv_int (P := Tryz.prog) (s := 2) (d := 208) (by kernel_rfl) (by kernel_rfl) k n
@[go_sem] theorem Tryz.cv3_2 (k : IntKind) (n : Int) : convV Tryz.prog 3 2 (.int k n) = some (.int .i64 (IntKind.wrap .i64 n)) := conv_int (P := Tryz.prog) (s := 3) (d := 2) (by kernel_rfl) (by kernel_rfl) k n
@[go_sem] theorem Tryz.cv3_5 (k : IntKind) (n : Int) : convV Tryz.prog 3 5 (.int k n) = some (.int .u8 (IntKind.wrap .u8 n)) := conv_int (P := Tryz.prog) (s := 3) (d := 5) (by kernel_rfl) (by kernel_rfl) k n
@[go_sem] theorem Tryz.cv3_21 (k : IntKind) (n : Int) : convV Tryz.prog 3 21 (.int k n) = some (.int .i32 (IntKind.wrap .i32 n)) := conv_int (P := Tryz.prog) (s := 3) (d := 21) (by kernel_rfl) (by kernel_rfl) k n
@[go_sem] theorem Tryz.cv3_29 (k : IntKind) (n : Int) : convV Tryz.prog 3 29 (.int k n) = some (.int .i64 (IntKind.wrap .i64 n)) := conv_int (P := Tryz.prog) (s := 3) (d := 29) (by kernel_rfl) (by kernel_rfl) k n
@[go_sem] theorem Tryz.cv3_182 (k : IntKind) (n : Int) : convV Tryz.prog 3 182 (.int k n) = some (.int .u64 (IntKind.wrap .u64 n)) := conv_int (P := Tryz.prog) (s := 3) (d := 182) (by kernel_rfl) (by kernel_rfl) k n
@[go_sem] theorem Tryz.cv3_189 (k : IntKind) (n : Int) : convV Tryz.prog 3 189 (.int k n) = some (.int .u64 (IntKind.wrap .u64 n)) := conv_int (P := Tryz.prog) (s := 3) (d := 189) (by kernel_rfl) (by kernel_rfl) k n
@[go_sem] theorem Tryz.cv3_202 (k : IntKind) (n : Int) : convV Tryz.prog 3 202 (.int k n) = some (.int .u32 (IntKind.wrap .u32 n)) := conv_int (P := Tryz.prog) (s := 3) (d := 202) (by kernel_rfl) (by kernel_rfl) k n
@[go_sem] theorem Tryz.cv3_208 (k : IntKind) (n : Int) : convV Tryz.prog 3 208 (.int k n) = some (.int .i64 (IntKind.wrap .i64 n)) := conv_int (P := Tryz.prog) (s := 3) (d := 208) (by kernel_rfl) (by kernel_rfl) k n
@[go_sem] theorem Tryz.cv5_2 (k : IntKind) (n : Int) : convV Tryz.prog 5 2 (.int k n) = some (.int .i64 (IntKind.wrap .i64 n)) := conv_int (P := Tryz.prog) (s := 5) (d := 2) (by kernel_rfl) (by kernel_rfl) k n
@[go_sem] theorem Tryz.cv5_3 (k : IntKind) (n : Int) : convV Tryz.prog 5 3 (.int k n) = some (.int .i64 (IntKind.wrap .i64 n)) := conv_int (P := Tryz.prog) (s := 5) (d := 3) (by kernel_rfl) (by kernel_rfl) k n
@[go_sem] theorem Tryz.cv5_21 (k : IntKind) (n : Int) : convV Tryz.prog 5 21 (.int k n) = some (.int .i32 (IntKind.wrap .i32 n)) := conv_int (P := Tryz.prog) (s := 5) (d := 21) (by kernel_rfl) (by kernel_rfl) k n
@[go_sem] theorem Tryz.cv5_29 (k : IntKind) (n : Int) : convV Tryz.prog 5 29 (.int k n) = some (.int .i64 (IntKind.wrap .i64 n)) := conv_int (P := Tryz.prog) (s := 5) (d := 29) (by kernel_rfl) (by kernel_rfl) k n
@[go_sem] theorem Tryz.cv5_182 (k : IntKind) (n : Int) : convV Tryz.prog 5 182 (.int k n) = some (.int .u64 (IntKind.wrap .u64 n)) := conv_int (P := Tryz.prog) (s := 5) (d := 182) (by kernel_rfl) (by kernel_rfl) k n
@[go_sem] theorem Tryz.cv5_189 (k : IntKind) (n : Int) : convV Tryz.prog 5 189 (.int k n) = some (.int .u64 (IntKind.wrap .u64 n)) := conv_int (P := Tryz.prog) (s := 5) (d := 189) (by kernel_rfl) (by kernel_rfl) k n
@[go_sem] theorem Tryz.cv5_202 (k : IntKind) (n : Int) : convV Tryz.prog 5 202 (.int k n) = some (.int .u32 (IntKind.wrap .u32 n)) := conv_int (P := Tryz.prog) (s := 5) (d := 202) (by kernel_rfl) (by kernel_rfl) k n
@[go_sem] theorem Tryz.cv5_208 (k : IntKind) (n : Int) : convV Tryz.prog 5 208 (.int k n) = some (.int .i64 (IntKind.wrap .i64 n)) := conv_int (P := Tryz.prog) (s := 5) (d := 208) (by kernel_rfl) (by kernel_rfl) k n
@[go_sem] theorem Tryz.cv21_2 (k : IntKind) (n : Int) : convV Tryz.prog 21 2 (.int k n) = some (.int .i64 (IntKind.wrap .i64 n)) := conv_int (P := Tryz.prog) (s := 21) (d := 2) (by kernel_rfl) (by kernel_rfl) k n
@[go_sem] theorem Tryz.cv21_3 (k : IntKind) (n : Int) : convV Tryz.prog 21 3 (.int k n) = some (.int .i64 (IntKind.wrap .i64 n)) := conv_int (P := Tryz.prog) (s := 21) (d := 3) (by kernel_rfl) (by kernel_rfl) k n
@[go_sem] theorem Tryz.cv21_5 (k : IntKind) (n : Int) : convV Tryz.prog 21 5 (.int k n) = some (.int .u8 (IntKind.wrap .u8 n)) := conv_int (P := Tryz.prog) (s := 21) (d := 5) (by kernel_rfl) (by kernel_rfl) k n
@[go_sem] theorem Tryz.cv21_29 (k : IntKind) (n : Int) : convV Tryz.prog 21 29 (.int k n) = some (.int .i64 (IntKind.wrap .i64 n)) := conv_int (P := Tryz.prog) (s := 21) (d := 29) (by kernel_rfl) (by kernel_rfl) k n
@[go_sem] theorem Tryz.cv21_182 (k : IntKind) (n : Int) : convV Tryz.prog 21 182 (.int k n) = some (.int .u64 (IntKind.wrap .u64 n)) := conv_int (P := Tryz.prog) (s := 21) (d := 182) (by kernel_rfl) (by kernel_rfl) k n
@[go_sem] theorem Tryz.cv21_189 (k : IntKind) (n : Int) : convV Tryz.prog 21 189 (.int k n) = some (.int .u64 (IntKind.wrap .u64 n)) := conv_int (P := Tryz.prog) (s := 21) (d := 189) (by kernel_rfl) (by kernel_rfl) k n
@[go_sem] theorem Tryz.cv21_202 (k : IntKind) (n : Int) : convV Tryz.prog 21 202 (.int k n) = some (.int .u32 (IntKind.wrap .u32 n)) := conv_int (P := Tryz.prog) (s := 21) (d := 202) (by kernel_rfl) (by kernel_rfl) k n
@[go_sem] theorem Tryz.cv21_208 (k : IntKind) (n : Int) : convV Tryz.prog 21 208 (.int k n) = some (.int .i64 (IntKind.wrap .i64 n)) := conv_int (P := Tryz.prog) (s := 21) (d := 208) (by kernel_rfl) (by kernel_rfl) k n
@[go_sem] theorem Tryz.cv29_2 (k : IntKind) (n : Int) : convV Tryz.prog 29 2 (.int k n) = some (.int .i64 (IntKind.wrap .i64 n)) := conv_int (P := Tryz.prog) (s := 29) (d := 2) (by kernel_rfl) (by kernel_rfl) k n
@[go_sem] theorem Tryz.cv29_3 (k : IntKind) (n : Int) : convV Tryz.prog 29 3 (.int k n) = some (.int .i64 (IntKind.wrap .i64 n)) := conv_int (P := Tryz.prog) (s := 29) (d := 3) (by kernel_rfl) (by kernel_rfl) k n
@[go_sem] theorem Tryz.cv29_5 (k : IntKind) (n : Int) : convV Tryz.prog 29 5 (.int k n) = some (.int .u8 (IntKind.wrap .u8 n)) := conv_int (P := Tryz.prog) (s := 29) (d := 5) (by kernel_rfl) (by kernel_rfl) k n
@[go_sem] theorem Tryz.cv29_21 (k : IntKind) (n : Int) : convV Tryz.prog 29 21 (.int k n) = some (.int .i32 (IntKind.wrap .i32 n)) := conv_int (P := Tryz.prog) (s := 29) (d := 21) (by kernel_rfl) (by kernel_rfl) k n
@[go_sem] theorem Tryz.cv29_182 (k : IntKind) (n : Int) : convV Tryz.prog 29 182 (.int k n) = some (.int .u64 (IntKind.wrap .u64 n)) := conv_int (P := Tryz.prog) (s := 29) (d := 182) (by kernel_rfl) (by kernel_rfl) k n
@[go_sem] theorem Tryz.cv29_189 (k : IntKind) (n : Int) : convV Tryz.prog 29 189 (.int k n) = some (.int .u64 (IntKind.wrap .u64 n)) := conv_int (P := Tryz.prog) (s := 29) (d := 189) (by kernel_rfl) (by kernel_rfl) k n
@[go_sem] theorem Tryz.cv29_202 (k : IntKind) (n : Int) : convV Tryz.prog 29 202 (.int k n) = some (.int .u32 (IntKind.wrap .u32 n)) := conv_int (P := Tryz.prog) (s := 29) (d := 202) (by kernel_rfl) (by kernel_rfl) k n
@[go_sem] theorem Tryz.cv29_208 (k : IntKind) (n : Int) : convV Tryz.prog 29 208 (.int k n) = some (.int .i64 (IntKind.wrap .i64 n)) := conv_int (P := Tryz.prog) (s := 29) (d := 208) (by kernel_rfl) (by kernel_rfl) k n
@[go_sem] theorem Tryz.cv182_2 (k : IntKind) (n : Int) : convV Tryz.prog 182 2 (.int k n) = some (.int .i64 (IntKind.wrap .i64 n)) := conv_int (P := Tryz.prog) (s := 182) (d := 2) (by kernel_rfl) (by kernel_rfl) k n
@[go_sem] theorem Tryz.cv182_3 (k : IntKind) (n : Int) : convV Tryz.prog 182 3 (.int k n) = some (.int .i64 (IntKind.wrap .i64 n)) := conv_int (P := Tryz.prog) (s := 182) (d := 3) (by kernel_rfl) (by kernel_rfl) k n
@[go_sem] theorem Tryz.cv182_5 (k : IntKind) (n : Int) : convV Tryz.prog 182 5 (.int k n) = some (.int .u8 (IntKind.wrap .u8 n)) := conv_int (P := Tryz.prog) (s := 182) (d := 5) (by kernel_rfl) (by kernel_rfl) k n
@[go_sem] theorem Tryz.cv182_21 (k : IntKind) (n : Int) : convV Tryz.prog 182 21 (.int k n) = some (.int .i32 (IntKind.wrap .i32 n)) := conv_int (P := Tryz.prog) (s := 182) (d := 21) (by kernel_rfl) (by kernel_rfl) k n
@[go_sem] theorem Tryz.cv182_29 (k : IntKind) (n : Int) : convV Tryz.prog 182 29 (.int k n) = some (.int .i64 (IntKind.wrap .i64 n)) := conv_int (P := Tryz.prog) (s := 182) (d := 29) (by kernel_rfl) (by kernel_rfl) k n
@[go_sem] theorem Tryz.cv182_189 (k : IntKind) (n : Int) : convV Tryz.prog 182 189 (.int k n) = some (.int .u64 (IntKind.wrap .u64 n)) := conv_int (P := Tryz.prog) (s := 182) (d := 189) (by kernel_rfl) (by kernel_rfl) k n
@[go_sem] theorem Tryz.cv182_202 (k : IntKind) (n : Int) : convV Tryz.prog 182 202 (.int k n) = some (.int .u32 (IntKind.wrap .u32 n)) := conv_int (P := Tryz.prog) (s := 182) (d := 202) (by kernel_rfl) (by kernel_rfl) k n
@[go_sem] theorem Tryz.cv182_208 (k : IntKind) (n : Int) : convV Tryz.prog 182 208 (.int k n) = some (.int .i64 (IntKind.wrap .i64 n)) := conv_int (P := Tryz.prog) (s := 182) (d := 208) (by kernel_rfl) (by kernel_rfl) k n
@[go_sem] theorem Tryz.cv189_2 (k : IntKind) (n : Int) : convV Tryz.prog 189 2 (.int k n) = some (.int .i64 (IntKind.wrap .i64 n)) := conv_int (P := Tryz.prog) (s := 189) (d := 2) (by kernel_rfl) (by kernel_rfl) k n
@[go_sem] theorem Tryz.cv189_3 (k : IntKind) (n : Int) : convV Tryz.prog 189 3 (.int k n) = some (.int .i64 (IntKind.wrap .i64 n)) := conv_int (P := Tryz.prog) (s := 189) (d := 3) (by kernel_rfl) (by kernel_rfl) k n
@[go_sem] theorem Tryz.cv189_5 (k : IntKind) (n : Int) : convV Tryz.prog 189 5 (.int k n) = some (.int .u8 (IntKind.wrap .u8 n)) := conv_int (P := Tryz.prog) (s := 189) (d := 5) (by kernel_rfl) (by kernel_rfl) k n
@[go_sem] theorem Tryz.cv189_21 (k : IntKind) (n : Int) : convV Tryz.prog 189 21 (.int k n) = some (.int .i32 (IntKind.wrap .i32 n)) := conv_int (P := Tryz.prog) (s := 189) (d := 21) (by kernel_rfl) (by kernel_rfl) k n
@[go_sem] theorem Tryz.cv189_29 (k : IntKind) (n : Int) : convV Tryz.prog 189 29 (.int k n) = some (.int .i64 (IntKind.wrap .i64 n)) := conv_int (P := Tryz.prog) (s := 189) (d := 29) (by kernel_rfl) (by kernel_rfl) k n
@[go_sem] theorem Tryz.cv189_182 (k : IntKind) (n : Int) : convV Tryz.prog 189 182 (.int k n) = some (.int .u64 (IntKind.wrap .u64 n)) := conv_int (P := Tryz.prog) (s := 189) (d := 182) (by kernel_rfl) (by kernel_rfl) k n
@[go_sem] theorem Tryz.cv189_202 (k : IntKind) (n : Int) : convV Tryz.prog 189 202 (.int k n) = some (.int .u32 (IntKind.wrap .u32 n)) := conv_int (P := Tryz.prog) (s := 189) (d := 202) (by kernel_rfl) (by kernel_rfl) k n
@[go_sem] theorem Tryz.cv189_208 (k : IntKind) (n : Int) : convV Tryz.prog 189 208 (.int k n) = some (.int .i64 (IntKind.wrap .i64 n)) := conv_int (P := Tryz.prog) (s := 189) (d := 208) (by kernel_rfl) (by kernel_rfl) k n
@[go_sem] theorem Tryz.cv202_2 (k : IntKind) (n : Int) : convV Tryz.prog 202 2 (.int k n) = some (.int .i64 (IntKind.wrap .i64 n)) := conv_int (P := Tryz.prog) (s := 202) (d := 2) (by kernel_rfl) (by kernel_rfl) k n
@[go_sem] theorem Tryz.cv202_3 (k : IntKind) (n : Int) : convV Tryz.prog 202 3 (.int k n) = some (.int .i64 (IntKind.wrap .i64 n)) := conv_int (P := Tryz.prog) (s := 202) (d := 3) (by kernel_rfl) (by kernel_rfl) k n
@[go_sem] theorem Tryz.cv202_5 (k : IntKind) (n : Int) : convV Tryz.prog 202 5 (.int k n) = some (.int .u8 (IntKind.wrap .u8 n)) := conv_int (P := Tryz.prog) (s := 202) (d := 5) (by kernel_rfl) (by kernel_rfl) k n
@[go_sem] theorem Tryz.cv202_21 (k : IntKind) (n : Int) : convV Tryz.prog 202 21 (.int k n) = some (.int .i32 (IntKind.wrap .i32 n)) := conv_int (P := Tryz.prog) (s := 202) (d := 21) (by kernel_rfl) (by kernel_rfl) k n
@[go_sem] theorem Tryz.cv202_29 (k : IntKind) (n : Int) : convV Tryz.prog 202 29 (.int k n) = some (.int .i64 (IntKind.wrap .i64 n)) := conv_int (P := Tryz.prog) (s := 202) (d := 29) (by kernel_rfl) (by kernel_rfl) k n
@[go_sem] theorem Tryz.cv202_182 (k : IntKind) (n : Int) : convV Tryz.prog 202 182 (.int k n) = some (.int .u64 (IntKind.wrap .u64 n)) := conv_int (P := Tryz.prog) (s := 202) (d := 182) (by kernel_rfl) (by kernel_rfl) k n
@[go_sem] theorem Tryz.cv202_189 (k : IntKind) (n : Int) : convV Tryz.prog 202 189 (.int k n) = some (.int .u64 (IntKind.wrap .u64 n)) := conv_int (P := Tryz.prog) (s := 202) (d := 189) (by kernel_rfl) (by kernel_rfl) k n
@[go_sem] theorem Tryz.cv202_208 (k : IntKind) (n : Int) : convV Tryz.prog 202 208 (.int k n) = some (.int .i64 (IntKind.wrap .i64 n)) := conv_int (P := Tryz.prog) (s := 202) (d := 208) (by kernel_rfl) (by kernel_rfl) k n
@[go_sem] theorem Tryz.cv208_2 (k : IntKind) (n : Int) : convV Tryz.prog 208 2 (.int k n) = some (.int .i64 (IntKind.wrap .i64 n)) := conv_int (P := Tryz.prog) (s := 208) (d := 2) (by kernel_rfl) (by kernel_rfl) k n
@[go_sem] theorem Tryz.cv208_3 (k : IntKind) (n : Int) : convV Tryz.prog 208 3 (.int k n) = some (.int .i64 (IntKind.wrap .i64 n)) := conv_int (P := Tryz.prog) (s := 208) (d := 3) (by kernel_rfl) (by kernel_rfl) k n
@[go_sem] theorem Tryz.cv208_5 (k : IntKind) (n : Int) : convV Tryz.prog 208 5 (.int k n) = some (.int .u8 (IntKind.wrap .u8 n)) := conv_int (P := Tryz.prog) (s := 208) (d := 5) (by kernel_rfl) (by kernel_rfl) k n
@[go_sem] theorem Tryz.cv208_21 (k : IntKind) (n : Int) : convV Tryz.prog 208 21 (.int k n) = some (.int .i32 (IntKind.wrap .i32 n)) := conv_int (P := Tryz.prog) (s := 208) (d := 21) (by kernel_rfl) (by kernel_rfl) k n
@[go_sem] theorem Tryz.cv208_29 (k : IntKind) (n : Int) : convV Tryz.prog 208 29 (.int k n) = some (.int .i64 (IntKind.wrap .i64 n)) := conv_int (P := Tryz.prog) (s := 208) (d := 29) (by kernel_rfl) (by kernel_rfl) k n
@[go_sem] theorem Tryz.cv208_182 (k : IntKind) (n : Int) : convV Tryz.prog 208 182 (.int k n) = some (.int .u64 (IntKind.wrap .u64 n)) := conv_int (P := Tryz.prog) (s := 208) (d := 182) (by kernel_rfl) (by kernel_rfl) k n
@[go_sem] theorem Tryz.cv208_189 (k : IntKind) (n : Int) : convV Tryz.prog 208 189 (.int k n) = some (.int .u64 (IntKind.wrap .u64 n)) := conv_int (P := Tryz.prog) (s := 208) (d := 189) (by kernel_rfl) (by kernel_rfl) k n
@[go_sem] theorem Tryz.cv208_202 (k : IntKind) (n : Int) : convV Tryz.prog 208 202 (.int k n) = some (.int .u32 (IntKind.wrap .u32 n)) := conv_int (P := Tryz.prog) (s := 208) (d := 202) (by kernel_rfl) (by kernel_rfl) k n
end Go.Hs
end
