/- Part 20 of the proof of a statement of seat YtpoiceejhcpnaaaGreatDoor: HsFactsE. -/
import Derived.Test.YtpoiceejhcpnaaaGreatDoorPart19
import Derived.Test.YtpoiceejhcpnaaaGreatDoorProg
import Derived.KernelRfl
set_option linter.unusedSimpArgs false
set_option linter.unusedVariables false
section
namespace Go.Hs
open Go.Proofs
theorem Tryz.shape2:shapeOf Tryz.prog 2=some (false,1):=by kernel_rfl
@[go_sem] theorem Tryz.load2 (H:Heap) (a:V):readV Tryz.prog H 2 a=loadK (some (false,1)) (obOf H a) a:=readV_K Tryz.shape2 H a
@[go_sem] theorem Tryz.sz2:szOf Tryz.prog 2=some 1:=by kernel_rfl
theorem Tryz.shape3:shapeOf Tryz.prog 3=some (false,1):=by kernel_rfl
@[go_sem] theorem Tryz.load3 (H:Heap) (a:V):readV Tryz.prog H 3 a=loadK (some (false,1)) (obOf H a) a:=readV_K Tryz.shape3 H a
@[go_sem] theorem Tryz.sz3:szOf Tryz.prog 3=some 1:=by kernel_rfl
theorem Tryz.shape4:shapeOf Tryz.prog 4=some (false,1):=by kernel_rfl
@[go_sem] theorem Tryz.load4 (H:Heap) (a:V):readV Tryz.prog H 4 a=loadK (some (false,1)) (obOf H a) a:=readV_K Tryz.shape4 H a
@[go_sem] theorem Tryz.neb4 (a b:Bool):binV Tryz.prog .neq 4 (.bool a) (.bool b)=some (.bool (a != b)):=(binV_bool (P:=Tryz.prog) (by kernel_rfl) a b).2
theorem Tryz.shape5:shapeOf Tryz.prog 5=some (false,1):=by kernel_rfl
@[go_sem] theorem Tryz.load5 (H:Heap) (a:V):readV Tryz.prog H 5 a=loadK (some (false,1)) (obOf H a) a:=readV_K Tryz.shape5 H a
@[go_sem] theorem Tryz.sz5:szOf Tryz.prog 5=some 1:=by kernel_rfl
theorem Tryz.shape9:shapeOf Tryz.prog 9=some (false,1):=by kernel_rfl
@[go_sem] theorem Tryz.load9 (H:Heap) (a:V):readV Tryz.prog H 9 a=loadK (some (false,1)) (obOf H a) a:=readV_K Tryz.shape9 H a
@[go_sem] theorem Tryz.sz9:szOf Tryz.prog 9=some 1:=by kernel_rfl
theorem Tryz.str9:isStr Tryz.prog 9=true:=by kernel_rfl
@[go_sem] theorem Tryz.len9 (a:V):lenV Tryz.prog 9 a=lenK false a:=lenV_str Tryz.str9 a
@[go_sem] theorem Tryz.ixs9 (s:List UInt8) (k:IntKind) (n:Int):indexV Tryz.prog 9 (.str s) (.int k n)=if 0≤n then (s[n.toNat]?).map fun b => .int .u8 b.toNat else none:=indexV_str Tryz.str9 s k n
@[go_sem] theorem Tryz.sls9 (s:List UInt8) (lo hi:Option V):sliceV Tryz.prog 9 (.str s) lo hi none=slJ (boundV 0 lo) (boundV s.length hi) fun i j=>if i≤j∧j≤s.length then some (.str ((s.drop i).take (j-i))) else none:=sliceV_str Tryz.str9 s lo hi
theorem Tryz.shape22:shapeOf Tryz.prog 22=some (false,1):=by kernel_rfl
@[go_sem] theorem Tryz.load22 (H:Heap) (a:V):readV Tryz.prog H 22 a=loadK (some (false,1)) (obOf H a) a:=readV_K Tryz.shape22 H a
@[go_sem] theorem Tryz.sz22:szOf Tryz.prog 22=some 1:=by kernel_rfl
theorem Tryz.elem22:elemOf Tryz.prog 22=some 6:=by kernel_rfl
@[go_sem] theorem Tryz.idx22 (a i:V):indexAddrV Tryz.prog 22 a i=idxK (some 6) a i:=indexAddrV_K Tryz.elem22 a i
@[go_sem] theorem Tryz.len22 (a:V):lenV Tryz.prog 22 a=lenK true a:=lenV_slice Tryz.elem22 a
@[go_sem] theorem Tryz.sl22 (a:V) (lo hi:Option V):sliceV Tryz.prog 22 a lo hi none=slK 6 a lo hi:=sliceV_K Tryz.elem22 a lo hi
@[go_sem] theorem Tryz.bs22 (n:Nat) (l:List (Nat × V)):bsCells Tryz.prog 22 n l=bsK 6 [.int .u8 0,.int .i64 0,.str [],.int .i64 0,.int .i64 0,.int .i64 0] n l:=bsCells_K (P:=Tryz.prog) (t:=22) (e:=41) (m:=6) (z:=[.int .u8 0,.int .i64 0,.str [],.int .i64 0,.int .i64 0,.int .i64 0]) (by kernel_rfl) (by kernel_rfl) (by kernel_rfl) rfl n l
theorem Tryz.app22:appOf Tryz.prog [22,22]=some (6,56):=by kernel_rfl
@[go_sem] theorem Tryz.appc22 (E:Ent) (ops:Array Oper) (Q:AS→Prop) (rest:List Oper) (e:Nat) (τ : Nat→V) (H:Heap) (a b:V):appC Tryz.prog E ops Q rest e τ H [22,22] a b=appE Tryz.prog E ops Q rest e τ H 6 56 a (srcCells H 6 b) (obS H a):=appC_E ops Tryz.app22 e a b
theorem Tryz.shape24:shapeOf Tryz.prog 24=some (true,1):=by kernel_rfl
@[go_sem] theorem Tryz.load24 (H:Heap) (a:V):readV Tryz.prog H 24 a=loadK (some (true,1)) (obOf H a) a:=readV_K Tryz.shape24 H a
@[go_sem] theorem Tryz.sz24:szOf Tryz.prog 24=some 1:=by kernel_rfl
@[go_sem] theorem Tryz.zero24:zeroC Tryz.prog 24=some [.nils]:=by kernel_rfl
@[go_sem] theorem Tryz.bld24 (l:List (Nat × V)):buildV Tryz.prog 24 l=(fillV (tblP [(0,1)]) [.nils] l).map .agg:=buildV_K (P:=Tryz.prog) (t:=24) (tbl:=[(0,1)]) (z:=[.nils]) (by kernel_rfl) (by kernel_rfl) l
theorem Tryz.fld24_0:fldOf Tryz.prog 24 0=some (0,false,1):=by kernel_rfl
@[go_sem] theorem Tryz.fa24_0 (a:V):fieldAddrV Tryz.prog 24 a 0=fldK (some (0,false,1)) a:=fieldAddrV_K Tryz.fld24_0 a
theorem Tryz.shape25:shapeOf Tryz.prog 25=some (false,1):=by kernel_rfl
@[go_sem] theorem Tryz.load25 (H:Heap) (a:V):readV Tryz.prog H 25 a=loadK (some (false,1)) (obOf H a) a:=readV_K Tryz.shape25 H a
theorem Tryz.elem25:elemOf Tryz.prog 25=some 1:=by kernel_rfl
@[go_sem] theorem Tryz.idx25 (a i:V):indexAddrV Tryz.prog 25 a i=idxK (some 1) a i:=indexAddrV_K Tryz.elem25 a i
@[go_sem] theorem Tryz.len25 (a:V):lenV Tryz.prog 25 a=lenK true a:=lenV_slice Tryz.elem25 a
@[go_sem] theorem Tryz.bs25 (n:Nat) (l:List (Nat × V)):bsCells Tryz.prog 25 n l=bsK 1 [.str []] n l:=bsCells_K (P:=Tryz.prog) (t:=25) (e:=9) (m:=1) (z:=[.str []]) (by kernel_rfl) (by kernel_rfl) (by kernel_rfl) rfl n l
theorem Tryz.app25:appOf Tryz.prog [25,25]=some (1,16):=by kernel_rfl
@[go_sem] theorem Tryz.appc25 (E:Ent) (ops:Array Oper) (Q:AS→Prop) (rest:List Oper) (e:Nat) (τ : Nat→V) (H:Heap) (a b:V):appC Tryz.prog E ops Q rest e τ H [25,25] a b=appE Tryz.prog E ops Q rest e τ H 1 16 a (srcCells H 1 b) (obS H a):=appC_E ops Tryz.app25 e a b
@[go_sem] theorem Tryz.bs28 (n:Nat) (l:List (Nat × V)):bsCells Tryz.prog 28 n l=bsK 1 [.int .u8 0] n l:=bsCells_K (P:=Tryz.prog) (t:=28) (e:=5) (m:=1) (z:=[.int .u8 0]) (by kernel_rfl) (by kernel_rfl) (by kernel_rfl) rfl n l
theorem Tryz.shape29:shapeOf Tryz.prog 29=some (false,1):=by kernel_rfl
@[go_sem] theorem Tryz.load29 (H:Heap) (a:V):readV Tryz.prog H 29 a=loadK (some (false,1)) (obOf H a) a:=readV_K Tryz.shape29 H a
@[go_sem] theorem Tryz.sz29:szOf Tryz.prog 29=some 1:=by kernel_rfl
theorem Tryz.shape32:shapeOf Tryz.prog 32=some (false,1):=by kernel_rfl
@[go_sem] theorem Tryz.load32 (H:Heap) (a:V):readV Tryz.prog H 32 a=loadK (some (false,1)) (obOf H a) a:=readV_K Tryz.shape32 H a
@[go_sem] theorem Tryz.sz32:szOf Tryz.prog 32=some 1:=by kernel_rfl
theorem Tryz.elem32:elemOf Tryz.prog 32=some 6:=by kernel_rfl
@[go_sem] theorem Tryz.idx32 (a i:V):indexAddrV Tryz.prog 32 a i=idxK (some 6) a i:=indexAddrV_K Tryz.elem32 a i
@[go_sem] theorem Tryz.len32 (a:V):lenV Tryz.prog 32 a=lenK true a:=lenV_slice Tryz.elem32 a
@[go_sem] theorem Tryz.bs32 (n:Nat) (l:List (Nat × V)):bsCells Tryz.prog 32 n l=bsK 6 [.int .u8 0,.int .i64 0,.str [],.int .i64 0,.int .i64 0,.int .i64 0] n l:=bsCells_K (P:=Tryz.prog) (t:=32) (e:=80) (m:=6) (z:=[.int .u8 0,.int .i64 0,.str [],.int .i64 0,.int .i64 0,.int .i64 0]) (by kernel_rfl) (by kernel_rfl) (by kernel_rfl) rfl n l
theorem Tryz.app32:appOf Tryz.prog [32,32]=some (6,56):=by kernel_rfl
@[go_sem] theorem Tryz.appc32 (E:Ent) (ops:Array Oper) (Q:AS→Prop) (rest:List Oper) (e:Nat) (τ : Nat→V) (H:Heap) (a b:V):appC Tryz.prog E ops Q rest e τ H [32,32] a b=appE Tryz.prog E ops Q rest e τ H 6 56 a (srcCells H 6 b) (obS H a):=appC_E ops Tryz.app32 e a b
theorem Tryz.shape41:shapeOf Tryz.prog 41=some (true,6):=by kernel_rfl
@[go_sem] theorem Tryz.load41 (H:Heap) (a:V):readV Tryz.prog H 41 a=loadK (some (true,6)) (obOf H a) a:=readV_K Tryz.shape41 H a
@[go_sem] theorem Tryz.sz41:szOf Tryz.prog 41=some 6:=by kernel_rfl
@[go_sem] theorem Tryz.zero41:zeroC Tryz.prog 41=some [.int .u8 0,.int .i64 0,.str [],.int .i64 0,.int .i64 0,.int .i64 0]:=by kernel_rfl
@[go_sem] theorem Tryz.bld41 (l:List (Nat × V)):buildV Tryz.prog 41 l=(fillV (tblP [(0,1),(1,1),(2,1),(3,1),(4,1),(5,1)]) [.int .u8 0,.int .i64 0,.str [],.int .i64 0,.int .i64 0,.int .i64 0] l).map .agg:=buildV_K (P:=Tryz.prog) (t:=41) (tbl:=[(0,1),(1,1),(2,1),(3,1),(4,1),(5,1)]) (z:=[.int .u8 0,.int .i64 0,.str [],.int .i64 0,.int .i64 0,.int .i64 0]) (by kernel_rfl) (by kernel_rfl) l
theorem Tryz.fld41_0:fldOf Tryz.prog 41 0=some (0,false,1):=by kernel_rfl
@[go_sem] theorem Tryz.fa41_0 (a:V):fieldAddrV Tryz.prog 41 a 0=fldK (some (0,false,1)) a:=fieldAddrV_K Tryz.fld41_0 a
theorem Tryz.fld41_1:fldOf Tryz.prog 41 1=some (1,false,1):=by kernel_rfl
@[go_sem] theorem Tryz.fa41_1 (a:V):fieldAddrV Tryz.prog 41 a 1=fldK (some (1,false,1)) a:=fieldAddrV_K Tryz.fld41_1 a
theorem Tryz.fld41_2:fldOf Tryz.prog 41 2=some (2,false,1):=by kernel_rfl
@[go_sem] theorem Tryz.fa41_2 (a:V):fieldAddrV Tryz.prog 41 a 2=fldK (some (2,false,1)) a:=fieldAddrV_K Tryz.fld41_2 a
theorem Tryz.fld41_3:fldOf Tryz.prog 41 3=some (3,false,1):=by kernel_rfl
@[go_sem] theorem Tryz.fa41_3 (a:V):fieldAddrV Tryz.prog 41 a 3=fldK (some (3,false,1)) a:=fieldAddrV_K Tryz.fld41_3 a
theorem Tryz.fld41_4:fldOf Tryz.prog 41 4=some (4,false,1):=by kernel_rfl
@[go_sem] theorem Tryz.fa41_4 (a:V):fieldAddrV Tryz.prog 41 a 4=fldK (some (4,false,1)) a:=fieldAddrV_K Tryz.fld41_4 a
theorem Tryz.fld41_5:fldOf Tryz.prog 41 5=some (5,false,1):=by kernel_rfl
@[go_sem] theorem Tryz.fa41_5 (a:V):fieldAddrV Tryz.prog 41 a 5=fldK (some (5,false,1)) a:=fieldAddrV_K Tryz.fld41_5 a
@[go_sem] theorem Tryz.neqs41 (x0 y0:Int) (x1 y1:Int) (x2 y2:List UInt8) (x3 y3:Int) (x4 y4:Int) (x5 y5:Int):binV Tryz.prog .neq 41 (.agg [.int .u8 x0,.int .i64 x1,.str x2,.int .i64 x3,.int .i64 x4,.int .i64 x5]) (.agg [.int .u8 y0,.int .i64 y1,.str y2,.int .i64 y3,.int .i64 y4,.int .i64 y5])=some (.bool (!(x0==y0 && (x1==y1 && (x2==y2 && (x3==y3 && (x4==y4 && (x5==y5 && true)))))))):=(binV_flat (P:=Tryz.prog) (t:=41) (by kernel_rfl) (eqCs_int (eqCs_int (eqCs_str (eqCs_int (eqCs_int (eqCs_int eqCs_nil .i64 x5 y5) .i64 x4 y4) .i64 x3 y3) x2 y2) .i64 x1 y1) .u8 x0 y0)).2
theorem Tryz.shape57:shapeOf Tryz.prog 57=some (false,1):=by kernel_rfl
@[go_sem] theorem Tryz.load57 (H:Heap) (a:V):readV Tryz.prog H 57 a=loadK (some (false,1)) (obOf H a) a:=readV_K Tryz.shape57 H a
theorem Tryz.elem57:elemOf Tryz.prog 57=some 3:=by kernel_rfl
@[go_sem] theorem Tryz.idx57 (a i:V):indexAddrV Tryz.prog 57 a i=idxK (some 3) a i:=indexAddrV_K Tryz.elem57 a i
@[go_sem] theorem Tryz.len57 (a:V):lenV Tryz.prog 57 a=lenK true a:=lenV_slice Tryz.elem57 a
@[go_sem] theorem Tryz.sl57 (a:V) (lo hi:Option V):sliceV Tryz.prog 57 a lo hi none=slK 3 a lo hi:=sliceV_K Tryz.elem57 a lo hi
@[go_sem] theorem Tryz.bs57 (n:Nat) (l:List (Nat × V)):bsCells Tryz.prog 57 n l=bsK 3 [.int .u8 0,.str [],.int .i64 0] n l:=bsCells_K (P:=Tryz.prog) (t:=57) (e:=60) (m:=3) (z:=[.int .u8 0,.str [],.int .i64 0]) (by kernel_rfl) (by kernel_rfl) (by kernel_rfl) rfl n l
theorem Tryz.app57:appOf Tryz.prog [57,57]=some (3,32):=by kernel_rfl
@[go_sem] theorem Tryz.appc57 (E:Ent) (ops:Array Oper) (Q:AS→Prop) (rest:List Oper) (e:Nat) (τ : Nat→V) (H:Heap) (a b:V):appC Tryz.prog E ops Q rest e τ H [57,57] a b=appE Tryz.prog E ops Q rest e τ H 3 32 a (srcCells H 3 b) (obS H a):=appC_E ops Tryz.app57 e a b
theorem Tryz.shape58:shapeOf Tryz.prog 58=some (false,1):=by kernel_rfl
@[go_sem] theorem Tryz.load58 (H:Heap) (a:V):readV Tryz.prog H 58 a=loadK (some (false,1)) (obOf H a) a:=readV_K Tryz.shape58 H a
theorem Tryz.elem58:elemOf Tryz.prog 58=some 3:=by kernel_rfl
@[go_sem] theorem Tryz.idx58 (a i:V):indexAddrV Tryz.prog 58 a i=idxK (some 3) a i:=indexAddrV_K Tryz.elem58 a i
@[go_sem] theorem Tryz.len58 (a:V):lenV Tryz.prog 58 a=lenK true a:=lenV_slice Tryz.elem58 a
@[go_sem] theorem Tryz.bs58 (n:Nat) (l:List (Nat × V)):bsCells Tryz.prog 58 n l=bsK 3 [.int .u8 0,.str [],.int .i64 0] n l:=bsCells_K (P:=Tryz.prog) (t:=58) (e:=61) (m:=3) (z:=[.int .u8 0,.str [],.int .i64 0]) (by kernel_rfl) (by kernel_rfl) (by kernel_rfl) rfl n l
theorem Tryz.app58:appOf Tryz.prog [58,58]=some (3,32):=by kernel_rfl
@[go_sem] theorem Tryz.appc58 (E:Ent) (ops:Array Oper) (Q:AS→Prop) (rest:List Oper) (e:Nat) (τ : Nat→V) (H:Heap) (a b:V):appC Tryz.prog E ops Q rest e τ H [58,58] a b=appE Tryz.prog E ops Q rest e τ H 3 32 a (srcCells H 3 b) (obS H a):=appC_E ops Tryz.app58 e a b
theorem Tryz.shape60:shapeOf Tryz.prog 60=some (true,3):=by kernel_rfl
@[go_sem] theorem Tryz.load60 (H:Heap) (a:V):readV Tryz.prog H 60 a=loadK (some (true,3)) (obOf H a) a:=readV_K Tryz.shape60 H a
@[go_sem] theorem Tryz.sz60:szOf Tryz.prog 60=some 3:=by kernel_rfl
@[go_sem] theorem Tryz.zero60:zeroC Tryz.prog 60=some [.int .u8 0,.str [],.int .i64 0]:=by kernel_rfl
@[go_sem] theorem Tryz.bld60 (l:List (Nat × V)):buildV Tryz.prog 60 l=(fillV (tblP [(0,1),(1,1),(2,1)]) [.int .u8 0,.str [],.int .i64 0] l).map .agg:=buildV_K (P:=Tryz.prog) (t:=60) (tbl:=[(0,1),(1,1),(2,1)]) (z:=[.int .u8 0,.str [],.int .i64 0]) (by kernel_rfl) (by kernel_rfl) l
theorem Tryz.fld60_0:fldOf Tryz.prog 60 0=some (0,false,1):=by kernel_rfl
@[go_sem] theorem Tryz.fa60_0 (a:V):fieldAddrV Tryz.prog 60 a 0=fldK (some (0,false,1)) a:=fieldAddrV_K Tryz.fld60_0 a
theorem Tryz.fld60_1:fldOf Tryz.prog 60 1=some (1,false,1):=by kernel_rfl
@[go_sem] theorem Tryz.fa60_1 (a:V):fieldAddrV Tryz.prog 60 a 1=fldK (some (1,false,1)) a:=fieldAddrV_K Tryz.fld60_1 a
theorem Tryz.fld60_2:fldOf Tryz.prog 60 2=some (2,false,1):=by kernel_rfl
@[go_sem] theorem Tryz.fa60_2 (a:V):fieldAddrV Tryz.prog 60 a 2=fldK (some (2,false,1)) a:=fieldAddrV_K Tryz.fld60_2 a
@[go_sem] theorem Tryz.bld61 (l:List (Nat × V)):buildV Tryz.prog 61 l=(fillV (tblP [(0,1),(1,1),(2,1)]) [.int .u8 0,.str [],.int .i64 0] l).map .agg:=buildV_K (P:=Tryz.prog) (t:=61) (tbl:=[(0,1),(1,1),(2,1)]) (z:=[.int .u8 0,.str [],.int .i64 0]) (by kernel_rfl) (by kernel_rfl) l
theorem Tryz.fld61_0:fldOf Tryz.prog 61 0=some (0,false,1):=by kernel_rfl
@[go_sem] theorem Tryz.fa61_0 (a:V):fieldAddrV Tryz.prog 61 a 0=fldK (some (0,false,1)) a:=fieldAddrV_K Tryz.fld61_0 a
theorem Tryz.fld61_1:fldOf Tryz.prog 61 1=some (1,false,1):=by kernel_rfl
@[go_sem] theorem Tryz.fa61_1 (a:V):fieldAddrV Tryz.prog 61 a 1=fldK (some (1,false,1)) a:=fieldAddrV_K Tryz.fld61_1 a
theorem Tryz.fld61_2:fldOf Tryz.prog 61 2=some (2,false,1):=by kernel_rfl
@[go_sem] theorem Tryz.fa61_2 (a:V):fieldAddrV Tryz.prog 61 a 2=fldK (some (2,false,1)) a:=fieldAddrV_K Tryz.fld61_2 a
theorem Tryz.shape80:shapeOf Tryz.prog 80=some (true,6):=by kernel_rfl
@[go_sem] theorem Tryz.load80 (H:Heap) (a:V):readV Tryz.prog H 80 a=loadK (some (true,6)) (obOf H a) a:=readV_K Tryz.shape80 H a
@[go_sem] theorem Tryz.sz80:szOf Tryz.prog 80=some 6:=by kernel_rfl
@[go_sem] theorem Tryz.zero80:zeroC Tryz.prog 80=some [.int .u8 0,.int .i64 0,.str [],.int .i64 0,.int .i64 0,.int .i64 0]:=by kernel_rfl
@[go_sem] theorem Tryz.bld80 (l:List (Nat × V)):buildV Tryz.prog 80 l=(fillV (tblP [(0,1),(1,1),(2,1),(3,1),(4,1),(5,1)]) [.int .u8 0,.int .i64 0,.str [],.int .i64 0,.int .i64 0,.int .i64 0] l).map .agg:=buildV_K (P:=Tryz.prog) (t:=80) (tbl:=[(0,1),(1,1),(2,1),(3,1),(4,1),(5,1)]) (z:=[.int .u8 0,.int .i64 0,.str [],.int .i64 0,.int .i64 0,.int .i64 0]) (by kernel_rfl) (by kernel_rfl) l
theorem Tryz.fld80_0:fldOf Tryz.prog 80 0=some (0,false,1):=by kernel_rfl
@[go_sem] theorem Tryz.fa80_0 (a:V):fieldAddrV Tryz.prog 80 a 0=fldK (some (0,false,1)) a:=fieldAddrV_K Tryz.fld80_0 a
theorem Tryz.fld80_1:fldOf Tryz.prog 80 1=some (1,false,1):=by kernel_rfl
@[go_sem] theorem Tryz.fa80_1 (a:V):fieldAddrV Tryz.prog 80 a 1=fldK (some (1,false,1)) a:=fieldAddrV_K Tryz.fld80_1 a
theorem Tryz.fld80_2:fldOf Tryz.prog 80 2=some (2,false,1):=by kernel_rfl
@[go_sem] theorem Tryz.fa80_2 (a:V):fieldAddrV Tryz.prog 80 a 2=fldK (some (2,false,1)) a:=fieldAddrV_K Tryz.fld80_2 a
theorem Tryz.fld80_3:fldOf Tryz.prog 80 3=some (3,false,1):=by kernel_rfl
@[go_sem] theorem Tryz.fa80_3 (a:V):fieldAddrV Tryz.prog 80 a 3=fldK (some (3,false,1)) a:=fieldAddrV_K Tryz.fld80_3 a
theorem Tryz.fld80_4:fldOf Tryz.prog 80 4=some (4,false,1):=by kernel_rfl
@[go_sem] theorem Tryz.fa80_4 (a:V):fieldAddrV Tryz.prog 80 a 4=fldK (some (4,false,1)) a:=fieldAddrV_K Tryz.fld80_4 a
theorem Tryz.fld80_5:fldOf Tryz.prog 80 5=some (5,false,1):=by kernel_rfl
@[go_sem] theorem Tryz.fa80_5 (a:V):fieldAddrV Tryz.prog 80 a 5=fldK (some (5,false,1)) a:=fieldAddrV_K Tryz.fld80_5 a
@[go_sem] theorem Tryz.neqs80 (x0 y0:Int) (x1 y1:Int) (x2 y2:List UInt8) (x3 y3:Int) (x4 y4:Int) (x5 y5:Int):binV Tryz.prog .neq 80 (.agg [.int .u8 x0,.int .i64 x1,.str x2,.int .i64 x3,.int .i64 x4,.int .i64 x5]) (.agg [.int .u8 y0,.int .i64 y1,.str y2,.int .i64 y3,.int .i64 y4,.int .i64 y5])=some (.bool (!(x0==y0 && (x1==y1 && (x2==y2 && (x3==y3 && (x4==y4 && (x5==y5 && true)))))))):=(binV_flat (P:=Tryz.prog) (t:=80) (by kernel_rfl) (eqCs_int (eqCs_int (eqCs_str (eqCs_int (eqCs_int (eqCs_int eqCs_nil .i64 x5 y5) .i64 x4 y4) .i64 x3 y3) x2 y2) .i64 x1 y1) .u8 x0 y0)).2
theorem Tryz.shape96:shapeOf Tryz.prog 96=some (false,1):=by kernel_rfl
@[go_sem] theorem Tryz.load96 (H:Heap) (a:V):readV Tryz.prog H 96 a=loadK (some (false,1)) (obOf H a) a:=readV_K Tryz.shape96 H a
@[go_sem] theorem Tryz.bld98 (l:List (Nat × V)):buildV Tryz.prog 98 l=(fillV (tblP [(0,1),(1,1),(2,1),(3,1),(4,1)]) [.nils,.int .i64 0,.nils,.int .i64 0,.nilf] l).map .agg:=buildV_K (P:=Tryz.prog) (t:=98) (tbl:=[(0,1),(1,1),(2,1),(3,1),(4,1)]) (z:=[.nils,.int .i64 0,.nils,.int .i64 0,.nilf]) (by kernel_rfl) (by kernel_rfl) l
theorem Tryz.fld98_0:fldOf Tryz.prog 98 0=some (0,false,1):=by kernel_rfl
@[go_sem] theorem Tryz.fa98_0 (a:V):fieldAddrV Tryz.prog 98 a 0=fldK (some (0,false,1)) a:=fieldAddrV_K Tryz.fld98_0 a
theorem Tryz.fld98_1:fldOf Tryz.prog 98 1=some (1,false,1):=by kernel_rfl
@[go_sem] theorem Tryz.fa98_1 (a:V):fieldAddrV Tryz.prog 98 a 1=fldK (some (1,false,1)) a:=fieldAddrV_K Tryz.fld98_1 a
theorem Tryz.fld98_2:fldOf Tryz.prog 98 2=some (2,false,1):=by kernel_rfl
@[go_sem] theorem Tryz.fa98_2 (a:V):fieldAddrV Tryz.prog 98 a 2=fldK (some (2,false,1)) a:=fieldAddrV_K Tryz.fld98_2 a
theorem Tryz.fld98_3:fldOf Tryz.prog 98 3=some (3,false,1):=by kernel_rfl
@[go_sem] theorem Tryz.fa98_3 (a:V):fieldAddrV Tryz.prog 98 a 3=fldK (some (3,false,1)) a:=fieldAddrV_K Tryz.fld98_3 a
theorem Tryz.fld98_4:fldOf Tryz.prog 98 4=some (4,false,1):=by kernel_rfl
@[go_sem] theorem Tryz.fa98_4 (a:V):fieldAddrV Tryz.prog 98 a 4=fldK (some (4,false,1)) a:=fieldAddrV_K Tryz.fld98_4 a
@[go_sem] theorem Tryz.bld101 (l:List (Nat × V)):buildV Tryz.prog 101 l=(fillV (tblP [(0,1),(1,1),(2,1),(3,1)]) [.nils,.int .i64 0,.nils,.int .i64 0] l).map .agg:=buildV_K (P:=Tryz.prog) (t:=101) (tbl:=[(0,1),(1,1),(2,1),(3,1)]) (z:=[.nils,.int .i64 0,.nils,.int .i64 0]) (by kernel_rfl) (by kernel_rfl) l
theorem Tryz.fld101_0:fldOf Tryz.prog 101 0=some (0,false,1):=by kernel_rfl
@[go_sem] theorem Tryz.fa101_0 (a:V):fieldAddrV Tryz.prog 101 a 0=fldK (some (0,false,1)) a:=fieldAddrV_K Tryz.fld101_0 a
theorem Tryz.fld101_1:fldOf Tryz.prog 101 1=some (1,false,1):=by kernel_rfl
@[go_sem] theorem Tryz.fa101_1 (a:V):fieldAddrV Tryz.prog 101 a 1=fldK (some (1,false,1)) a:=fieldAddrV_K Tryz.fld101_1 a
theorem Tryz.fld101_2:fldOf Tryz.prog 101 2=some (2,false,1):=by kernel_rfl
@[go_sem] theorem Tryz.fa101_2 (a:V):fieldAddrV Tryz.prog 101 a 2=fldK (some (2,false,1)) a:=fieldAddrV_K Tryz.fld101_2 a
theorem Tryz.fld101_3:fldOf Tryz.prog 101 3=some (3,false,1):=by kernel_rfl
@[go_sem] theorem Tryz.fa101_3 (a:V):fieldAddrV Tryz.prog 101 a 3=fldK (some (3,false,1)) a:=fieldAddrV_K Tryz.fld101_3 a
theorem Tryz.shape107:shapeOf Tryz.prog 107=some (true,3):=by kernel_rfl
@[go_sem] theorem Tryz.load107 (H:Heap) (a:V):readV Tryz.prog H 107 a=loadK (some (true,3)) (obOf H a) a:=readV_K Tryz.shape107 H a
@[go_sem] theorem Tryz.sz107:szOf Tryz.prog 107=some 3:=by kernel_rfl
@[go_sem] theorem Tryz.zero107:zeroC Tryz.prog 107=some [.str [],.int .i64 0,.int .i64 0]:=by kernel_rfl
@[go_sem] theorem Tryz.bld107 (l:List (Nat × V)):buildV Tryz.prog 107 l=(fillV (tblP [(0,1),(1,1),(2,1)]) [.str [],.int .i64 0,.int .i64 0] l).map .agg:=buildV_K (P:=Tryz.prog) (t:=107) (tbl:=[(0,1),(1,1),(2,1)]) (z:=[.str [],.int .i64 0,.int .i64 0]) (by kernel_rfl) (by kernel_rfl) l
theorem Tryz.fld107_0:fldOf Tryz.prog 107 0=some (0,false,1):=by kernel_rfl
@[go_sem] theorem Tryz.fa107_0 (a:V):fieldAddrV Tryz.prog 107 a 0=fldK (some (0,false,1)) a:=fieldAddrV_K Tryz.fld107_0 a
theorem Tryz.fld107_1:fldOf Tryz.prog 107 1=some (1,false,1):=by kernel_rfl
@[go_sem] theorem Tryz.fa107_1 (a:V):fieldAddrV Tryz.prog 107 a 1=fldK (some (1,false,1)) a:=fieldAddrV_K Tryz.fld107_1 a
theorem Tryz.fld107_2:fldOf Tryz.prog 107 2=some (2,false,1):=by kernel_rfl
@[go_sem] theorem Tryz.fa107_2 (a:V):fieldAddrV Tryz.prog 107 a 2=fldK (some (2,false,1)) a:=fieldAddrV_K Tryz.fld107_2 a
theorem Tryz.shape108:shapeOf Tryz.prog 108=some (true,69):=by kernel_rfl
@[go_sem] theorem Tryz.load108 (H:Heap) (a:V):readV Tryz.prog H 108 a=loadK (some (true,69)) (obOf H a) a:=readV_K Tryz.shape108 H a
@[go_sem] theorem Tryz.sz108:szOf Tryz.prog 108=some 69:=by kernel_rfl
@[go_sem] theorem Tryz.zero108:zeroC Tryz.prog 108=some (.str [] :: .int .i64 0 :: .int .i64 0 :: .str [] :: .int .i64 0 :: .int .i64 0 :: .str [] :: .int .i64 0 :: .int .i64 0 :: .str [] :: .int .i64 0 :: .int .i64 0 :: .str [] :: .int .i64 0 :: .int .i64 0 :: .str [] :: .int .i64 0 :: .int .i64 0 :: .str [] :: .int .i64 0 :: .int .i64 0 :: .str [] :: .int .i64 0 :: .int .i64 0 :: .str [] :: .int .i64 0 :: .int .i64 0 :: .str [] :: .int .i64 0 :: .int .i64 0 :: .str [] :: .int .i64 0 :: .int .i64 0 :: .str [] :: .int .i64 0 :: .int .i64 0 :: .str [] :: .int .i64 0 :: .int .i64 0 :: .str [] :: .int .i64 0 :: .int .i64 0 :: .str [] :: .int .i64 0 :: .int .i64 0 :: .str [] :: .int .i64 0 :: .int .i64 0 :: .str [] :: .int .i64 0 :: .int .i64 0 :: .str [] :: .int .i64 0 :: .int .i64 0 :: .str [] :: .int .i64 0 :: .int .i64 0 :: .str [] :: .int .i64 0 :: .int .i64 0 :: .str [] :: .int .i64 0 :: .int .i64 0 :: .str [] :: .int .i64 0 :: .int .i64 0 :: .str [] :: .int .i64 0 :: .int .i64 0::[]):=by kernel_rfl
@[go_sem] theorem Tryz.ia108 (a:V) (ik:IntKind) (n:Int):indexAddrV Tryz.prog 108 a (.int ik n)=idxA 23 3 true a ik n:=indexAddrV_A (P:=Tryz.prog) (e:=107) (by kernel_rfl) (by kernel_rfl) (by kernel_rfl) (by decide) a ik n
@[go_sem] theorem Tryz.iv108 (l:List V) (ik:IntKind) (n:Int):indexV Tryz.prog 108 (.agg l) (.int ik n)=if 0≤n∧n<(23:Nat) then partC true 3 l (n.toNat * 3) else none:=indexV_A (P:=Tryz.prog) (e:=107) (by kernel_rfl) (by kernel_rfl) (by kernel_rfl) (by decide) l ik n
@[go_sem] theorem Tryz.bla108 (l:List (Nat × V)):buildV Tryz.prog 108 l=(fillV (mulP 3) (.str [] :: .int .i64 0 :: .int .i64 0 :: .str [] :: .int .i64 0 :: .int .i64 0 :: .str [] :: .int .i64 0 :: .int .i64 0 :: .str [] :: .int .i64 0 :: .int .i64 0 :: .str [] :: .int .i64 0 :: .int .i64 0 :: .str [] :: .int .i64 0 :: .int .i64 0 :: .str [] :: .int .i64 0 :: .int .i64 0 :: .str [] :: .int .i64 0 :: .int .i64 0 :: .str [] :: .int .i64 0 :: .int .i64 0 :: .str [] :: .int .i64 0 :: .int .i64 0 :: .str [] :: .int .i64 0 :: .int .i64 0 :: .str [] :: .int .i64 0 :: .int .i64 0 :: .str [] :: .int .i64 0 :: .int .i64 0 :: .str [] :: .int .i64 0 :: .int .i64 0 :: .str [] :: .int .i64 0 :: .int .i64 0 :: .str [] :: .int .i64 0 :: .int .i64 0 :: .str [] :: .int .i64 0 :: .int .i64 0 :: .str [] :: .int .i64 0 :: .int .i64 0 :: .str [] :: .int .i64 0 :: .int .i64 0 :: .str [] :: .int .i64 0 :: .int .i64 0 :: .str [] :: .int .i64 0 :: .int .i64 0 :: .str [] :: .int .i64 0 :: .int .i64 0 :: .str [] :: .int .i64 0 :: .int .i64 0::[]) l).map .agg:=buildV_A (P:=Tryz.prog) (N:=23) (e:=107) (by kernel_rfl) (by kernel_rfl) (by kernel_rfl) l
theorem Tryz.elem110:elemOf Tryz.prog 110=some 2:=by kernel_rfl
@[go_sem] theorem Tryz.idx110 (a i:V):indexAddrV Tryz.prog 110 a i=idxK (some 2) a i:=indexAddrV_K Tryz.elem110 a i
@[go_sem] theorem Tryz.len110 (a:V):lenV Tryz.prog 110 a=lenK true a:=lenV_slice Tryz.elem110 a
@[go_sem] theorem Tryz.sl110 (a:V) (lo hi:Option V):sliceV Tryz.prog 110 a lo hi none=slK 2 a lo hi:=sliceV_K Tryz.elem110 a lo hi
@[go_sem] theorem Tryz.bs110 (n:Nat) (l:List (Nat × V)):bsCells Tryz.prog 110 n l=bsK 2 [.int .i64 0,.int .i64 0] n l:=bsCells_K (P:=Tryz.prog) (t:=110) (e:=114) (m:=2) (z:=[.int .i64 0,.int .i64 0]) (by kernel_rfl) (by kernel_rfl) (by kernel_rfl) rfl n l
theorem Tryz.app110:appOf Tryz.prog [110,110]=some (2,16):=by kernel_rfl
@[go_sem] theorem Tryz.appc110 (E:Ent) (ops:Array Oper) (Q:AS→Prop) (rest:List Oper) (e:Nat) (τ : Nat→V) (H:Heap) (a b:V):appC Tryz.prog E ops Q rest e τ H [110,110] a b=appE Tryz.prog E ops Q rest e τ H 2 16 a (srcCells H 2 b) (obS H a):=appC_E ops Tryz.app110 e a b
theorem Tryz.shape112:shapeOf Tryz.prog 112=some (false,1):=by kernel_rfl
@[go_sem] theorem Tryz.load112 (H:Heap) (a:V):readV Tryz.prog H 112 a=loadK (some (false,1)) (obOf H a) a:=readV_K Tryz.shape112 H a
@[go_sem] theorem Tryz.sz112:szOf Tryz.prog 112=some 1:=by kernel_rfl
theorem Tryz.elem112:elemOf Tryz.prog 112=some 1:=by kernel_rfl
@[go_sem] theorem Tryz.idx112 (a i:V):indexAddrV Tryz.prog 112 a i=idxK (some 1) a i:=indexAddrV_K Tryz.elem112 a i
@[go_sem] theorem Tryz.len112 (a:V):lenV Tryz.prog 112 a=lenK true a:=lenV_slice Tryz.elem112 a
@[go_sem] theorem Tryz.sl112 (a:V) (lo hi:Option V):sliceV Tryz.prog 112 a lo hi none=slK 1 a lo hi:=sliceV_K Tryz.elem112 a lo hi
@[go_sem] theorem Tryz.bs112 (n:Nat) (l:List (Nat × V)):bsCells Tryz.prog 112 n l=bsK 1 [.int .i64 0] n l:=bsCells_K (P:=Tryz.prog) (t:=112) (e:=3) (m:=1) (z:=[.int .i64 0]) (by kernel_rfl) (by kernel_rfl) (by kernel_rfl) rfl n l
theorem Tryz.app112:appOf Tryz.prog [112,112]=some (1,8):=by kernel_rfl
@[go_sem] theorem Tryz.appc112 (E:Ent) (ops:Array Oper) (Q:AS→Prop) (rest:List Oper) (e:Nat) (τ : Nat→V) (H:Heap) (a b:V):appC Tryz.prog E ops Q rest e τ H [112,112] a b=appE Tryz.prog E ops Q rest e τ H 1 8 a (srcCells H 1 b) (obS H a):=appC_E ops Tryz.app112 e a b
theorem Tryz.shape114:shapeOf Tryz.prog 114=some (true,2):=by kernel_rfl
@[go_sem] theorem Tryz.load114 (H:Heap) (a:V):readV Tryz.prog H 114 a=loadK (some (true,2)) (obOf H a) a:=readV_K Tryz.shape114 H a
@[go_sem] theorem Tryz.sz114:szOf Tryz.prog 114=some 2:=by kernel_rfl
@[go_sem] theorem Tryz.zero114:zeroC Tryz.prog 114=some [.int .i64 0,.int .i64 0]:=by kernel_rfl
@[go_sem] theorem Tryz.bld114 (l:List (Nat × V)):buildV Tryz.prog 114 l=(fillV (tblP [(0,1),(1,1)]) [.int .i64 0,.int .i64 0] l).map .agg:=buildV_K (P:=Tryz.prog) (t:=114) (tbl:=[(0,1),(1,1)]) (z:=[.int .i64 0,.int .i64 0]) (by kernel_rfl) (by kernel_rfl) l
theorem Tryz.fld114_0:fldOf Tryz.prog 114 0=some (0,false,1):=by kernel_rfl
@[go_sem] theorem Tryz.fa114_0 (a:V):fieldAddrV Tryz.prog 114 a 0=fldK (some (0,false,1)) a:=fieldAddrV_K Tryz.fld114_0 a
theorem Tryz.fld114_1:fldOf Tryz.prog 114 1=some (1,false,1):=by kernel_rfl
@[go_sem] theorem Tryz.fa114_1 (a:V):fieldAddrV Tryz.prog 114 a 1=fldK (some (1,false,1)) a:=fieldAddrV_K Tryz.fld114_1 a
@[go_sem] theorem Tryz.ia148 (a:V) (ik:IntKind) (n:Int):indexAddrV Tryz.prog 148 a (.int ik n)=idxA 14 1 false a ik n:=indexAddrV_A (P:=Tryz.prog) (e:=9) (by kernel_rfl) (by kernel_rfl) (by kernel_rfl) (by decide) a ik n
theorem Tryz.elem151:elemOf Tryz.prog 151=some 3:=by kernel_rfl
@[go_sem] theorem Tryz.idx151 (a i:V):indexAddrV Tryz.prog 151 a i=idxK (some 3) a i:=indexAddrV_K Tryz.elem151 a i
@[go_sem] theorem Tryz.len151 (a:V):lenV Tryz.prog 151 a=lenK true a:=lenV_slice Tryz.elem151 a
theorem Tryz.elem155:elemOf Tryz.prog 155=some 1:=by kernel_rfl
@[go_sem] theorem Tryz.idx155 (a i:V):indexAddrV Tryz.prog 155 a i=idxK (some 1) a i:=indexAddrV_K Tryz.elem155 a i
@[go_sem] theorem Tryz.len155 (a:V):lenV Tryz.prog 155 a=lenK true a:=lenV_slice Tryz.elem155 a
@[go_sem] theorem Tryz.bs155 (n:Nat) (l:List (Nat × V)):bsCells Tryz.prog 155 n l=bsK 1 [.nils] n l:=bsCells_K (P:=Tryz.prog) (t:=155) (e:=25) (m:=1) (z:=[.nils]) (by kernel_rfl) (by kernel_rfl) (by kernel_rfl) rfl n l
theorem Tryz.shape158:shapeOf Tryz.prog 158=some (true,2):=by kernel_rfl
@[go_sem] theorem Tryz.load158 (H:Heap) (a:V):readV Tryz.prog H 158 a=loadK (some (true,2)) (obOf H a) a:=readV_K Tryz.shape158 H a
@[go_sem] theorem Tryz.sz158:szOf Tryz.prog 158=some 2:=by kernel_rfl
@[go_sem] theorem Tryz.zero158:zeroC Tryz.prog 158=some [.nils,.bool false]:=by kernel_rfl
@[go_sem] theorem Tryz.bld158 (l:List (Nat × V)):buildV Tryz.prog 158 l=(fillV (tblP [(0,1),(1,1)]) [.nils,.bool false] l).map .agg:=buildV_K (P:=Tryz.prog) (t:=158) (tbl:=[(0,1),(1,1)]) (z:=[.nils,.bool false]) (by kernel_rfl) (by kernel_rfl) l
theorem Tryz.fld158_0:fldOf Tryz.prog 158 0=some (0,false,1):=by kernel_rfl
@[go_sem] theorem Tryz.fa158_0 (a:V):fieldAddrV Tryz.prog 158 a 0=fldK (some (0,false,1)) a:=fieldAddrV_K Tryz.fld158_0 a
theorem Tryz.fld158_1:fldOf Tryz.prog 158 1=some (1,false,1):=by kernel_rfl
@[go_sem] theorem Tryz.fa158_1 (a:V):fieldAddrV Tryz.prog 158 a 1=fldK (some (1,false,1)) a:=fieldAddrV_K Tryz.fld158_1 a
@[go_sem] theorem Tryz.iv164 (l:List V) (ik:IntKind) (n:Int):indexV Tryz.prog 164 (.agg l) (.int ik n)=if 0≤n∧n<(3:Nat) then partC false 1 l (n.toNat * 1) else none:=indexV_A (P:=Tryz.prog) (e:=9) (by kernel_rfl) (by kernel_rfl) (by kernel_rfl) (by decide) l ik n
@[go_sem] theorem Tryz.bla164 (l:List (Nat × V)):buildV Tryz.prog 164 l=(fillV (mulP 1) [.str [],.str [],.str []] l).map .agg:=buildV_A (P:=Tryz.prog) (N:=3) (e:=9) (by kernel_rfl) (by kernel_rfl) (by kernel_rfl) l
@[go_sem] theorem Tryz.cv3_5 (k:IntKind) (n:Int):convV Tryz.prog 3 5 (.int k n)=some (.int .u8 (IntKind.wrap .u8 n)):=conv_int (P:=Tryz.prog) (s:=3) (d:=5) (by kernel_rfl) (by kernel_rfl) k n
@[go_sem] theorem Tryz.cv5_3 (k:IntKind) (n:Int):convV Tryz.prog 5 3 (.int k n)=some (.int .i64 (IntKind.wrap .i64 n)):=conv_int (P:=Tryz.prog) (s:=5) (d:=3) (by kernel_rfl) (by kernel_rfl) k n
end Go.Hs
end
