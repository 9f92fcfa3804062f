/- Part 20 of a proof; no condition. -/
import Derived.Test.YtegjlbpnpiigkaaGreatDoorPart19
import Derived.Test.YtegjlbpnpiigkaaGreatDoorProg
import Derived.KernelRfl
set_option linter.unusedSimpArgs false
set_option linter.unusedVariables false
section
namespace Go.Hs
open Go.Proofs
abbrev zFA (t n:Nat) (x:Nat × Bool × Nat):Prop:=∀ a,Z5d Tryz.prog t a n=fldK (some x) a
theorem zfa {t n:Nat} {x:Nat × Bool × Nat} (h:fldOf Tryz.prog t n=some x:=by kernel_rfl):zFA t n x:=fun a=>Zhu h a
abbrev zLD (t:Nat) (x:Bool × Nat):Prop:=∀ (H:Heap) (a:V),Z8b Tryz.prog H t a=Zom (some x) (obOf H a) a
theorem zld {t n:Nat} {b:Bool} (h:Z0v Tryz.prog t=some (b,n):=by kernel_rfl):zLD t (b,n):=fun H a=>readV_K h H a
abbrev zIX (t m:Nat):Prop:=∀ a i:V,Z2b Tryz.prog t a i=Zo8 (some m) a i
theorem zix {t m:Nat} (h:Z2f Tryz.prog t=some m:=by kernel_rfl):zIX t m:=fun a i=>Z8t h a i
abbrev zLN (t:Nat):Prop:=∀ a:V,Zm1 Tryz.prog t a=Zs0 true a
theorem zln {t m:Nat} (h:Z2f Tryz.prog t=some m:=by kernel_rfl):zLN t:=fun a=>Zr0 h a
abbrev zAC (l:List Nat) (m b:Nat):Prop:=∀ (E:Ent) (ops:Array Oper) (Q:AS→Prop) (rest:List Oper) (e:Nat) (τ : Nat→V) (H:Heap) (x y:V),appC Tryz.prog E ops Q rest e τ H l x y=Z18 Tryz.prog E ops Q rest e τ H m b x (Z9c H m y) (obS H x)
theorem zac {l:List Nat} {m b:Nat} (h:appOf Tryz.prog l=some (m,b):=by kernel_rfl):zAC l m b:=fun E ops Q rest e τ H x y=>appC_E ops h e x y
abbrev zBD (t:Nat) (T:List (Nat × Nat)) (Z:List V):Prop:=∀ l:List (Nat × V),Z3f Tryz.prog t l=(Zwd (Zz5 T) Z l).map .agg
theorem zbd {t:Nat} {T:List (Nat × Nat)} {Z:List V} (h:tblOf Tryz.prog t=some T:=by kernel_rfl) (h2:Zrf Tryz.prog t=some (.agg Z):=by kernel_rfl):zBD t T Z:=fun l=>Z6y h h2 l
abbrev zBS (t m:Nat) (Z:List V):Prop:=∀ (n:Nat) (l:List (Nat × V)),Z0o Tryz.prog t n l=bsK m Z n l
theorem zbs {t m e:Nat} {Z:List V} (h:Tryz.prog.underlying t=some (.slice e):=by kernel_rfl) (h2:Zqb Tryz.prog e=some m:=by kernel_rfl) (h3:Z4c Tryz.prog e=some Z:=by kernel_rfl) (h4:Z.length=m:=by rfl):zBS t m Z:=fun n l=>Zw4 h h2 h3 h4 n l
@[go_sem] theorem Tryz.load2:zLD 2 (false,1):=zld
@[go_sem] theorem Tryz.load3:zLD 3 (false,1):=zld
@[go_sem] theorem Tryz.sz3:Zqb Tryz.prog 3=some 1:=by kernel_rfl
@[go_sem] theorem Tryz.load4:zLD 4 (false,1):=zld
@[go_sem] theorem Tryz.eqb4 (a b:Bool):Zqj Tryz.prog .eql 4 (.bool a) (.bool b)=some (.bool (a==b)):=(Z34 (P:=Tryz.prog) (by kernel_rfl) a b).1
@[go_sem] theorem Tryz.load5:zLD 5 (false,1):=zld
@[go_sem] theorem Tryz.sz5:Zqb Tryz.prog 5=some 1:=by kernel_rfl
@[go_sem] theorem Tryz.load9:zLD 9 (false,1):=zld
@[go_sem] theorem Tryz.sz9:Zqb Tryz.prog 9=some 1:=by kernel_rfl
theorem Z7o:Ztw Tryz.prog 9=true:=by kernel_rfl
@[go_sem] theorem Tryz.len9 (a:V):Zm1 Tryz.prog 9 a=Zs0 false a:=Z46 Z7o a
@[go_sem] theorem Tryz.ixs9 (s:List UInt8) (k:IntKind) (n:Int):Zqh Tryz.prog 9 (.str s) (.int k n)=if 0≤n then (s[n.toNat]?).map fun b => .int .u8 b.toNat else none:=Zv0 Z7o s k n
@[go_sem] theorem Tryz.sls9 (s:List UInt8) (lo hi:Option V):Z3e Tryz.prog 9 (.str s) lo hi none=slJ (Zoa 0 lo) (Zoa s.length hi) fun i j=>if i≤j∧j≤s.length then some (.str ((s.drop i).take (j-i))) else none:=Zvz Z7o s lo hi
@[go_sem] theorem Tryz.load22:zLD 22 (false,1):=zld
theorem Zpx:Z2f Tryz.prog 22=some 2:=by kernel_rfl
@[go_sem] theorem Tryz.idx22:zIX 22 2:=zix
@[go_sem] theorem Tryz.len22:zLN 22:=zln (m:=2)
@[go_sem] theorem Tryz.sl22 (a:V) (lo hi:Option V):Z3e Tryz.prog 22 a lo hi none=slK 2 a lo hi:=Z2h Zpx a lo hi
@[go_sem] theorem Tryz.bs22:zBS 22 2 [.str [],.int .i64 0]:=zbs (e:=94)
@[go_sem] theorem Tryz.load23:zLD 23 (false,1):=zld
@[go_sem] theorem Tryz.sz23:Zqb Tryz.prog 23=some 1:=by kernel_rfl
theorem Za5:Zil Tryz.prog 23=2:=by kernel_rfl
@[go_sem] theorem Tryz.eqn23 (a:V):Zqj Tryz.prog .eql 23 a .nils=(nilK 2 a).map .bool:=(Zw7 _ _ Za5 (by simp) a).1
theorem Zox:Z2f Tryz.prog 23=some 1:=by kernel_rfl
@[go_sem] theorem Tryz.idx23:zIX 23 1:=zix
@[go_sem] theorem Tryz.len23:zLN 23:=zln (m:=1)
@[go_sem] theorem Tryz.sl23 (a:V) (lo hi:Option V):Z3e Tryz.prog 23 a lo hi none=slK 1 a lo hi:=Z2h Zox a lo hi
@[go_sem] theorem Tryz.bs23:zBS 23 1 [.str []]:=zbs (e:=9)
@[go_sem] theorem Tryz.appc23:zAC [23,23] 1 16:=zac
@[go_sem] theorem Tryz.load24:zLD 24 (false,1):=zld
@[go_sem] theorem Tryz.idx24:zIX 24 2:=zix
@[go_sem] theorem Tryz.len24:zLN 24:=zln (m:=2)
@[go_sem] theorem Tryz.bs24:zBS 24 2 [.str [],.int .i64 0]:=zbs (e:=53)
@[go_sem] theorem Tryz.load25:zLD 25 (false,1):=zld
@[go_sem] theorem Tryz.idx25:zIX 25 8:=zix
@[go_sem] theorem Tryz.len25:zLN 25:=zln (m:=8)
@[go_sem] theorem Tryz.bs25:zBS 25 8 [.str [],.int .u8 0,.int .i64 0,.int .i64 0,.str [],.str [],.nils,.str []]:=zbs (e:=51)
@[go_sem] theorem Tryz.load26:zLD 26 (false,1):=zld
@[go_sem] theorem Tryz.sz26:Zqb Tryz.prog 26=some 1:=by kernel_rfl
@[go_sem] theorem Tryz.idx26:zIX 26 8:=zix
@[go_sem] theorem Tryz.len26:zLN 26:=zln (m:=8)
@[go_sem] theorem Tryz.bs26:zBS 26 8 [.str [],.int .i64 0,.int .i64 0,.nils,.int .i64 0,.str [],.str [],.int .u8 0]:=zbs (e:=55)
@[go_sem] theorem Tryz.appc26:zAC [26,26] 8 104:=zac
@[go_sem] theorem Tryz.load28:zLD 28 (true,6):=zld
@[go_sem] theorem Tryz.sz28:Zqb Tryz.prog 28=some 6:=by kernel_rfl
@[go_sem] theorem Tryz.zero28:Z4c Tryz.prog 28=some [.str [],.nils,.nils,.nils,.nils,.nils]:=by kernel_rfl
@[go_sem] theorem Tryz.bld28:zBD 28 [(0,1),(1,1),(2,1),(3,1),(4,1),(5,1)] [.str [],.nils,.nils,.nils,.nils,.nils]:=zbd
@[go_sem] theorem Tryz.fa28_0:zFA 28 0 (0,false,1):=zfa
@[go_sem] theorem Tryz.fa28_1:zFA 28 1 (1,false,1):=zfa
@[go_sem] theorem Tryz.fa28_2:zFA 28 2 (2,false,1):=zfa
@[go_sem] theorem Tryz.fa28_3:zFA 28 3 (3,false,1):=zfa
@[go_sem] theorem Tryz.fa28_4:zFA 28 4 (4,false,1):=zfa
@[go_sem] theorem Tryz.fa28_5:zFA 28 5 (5,false,1):=zfa
@[go_sem] theorem Tryz.idx31:zIX 31 2:=zix
@[go_sem] theorem Tryz.len31:zLN 31:=zln (m:=2)
@[go_sem] theorem Tryz.bs31:zBS 31 2 [.int .u8 0,.int .i64 0]:=zbs (e:=92)
@[go_sem] theorem Tryz.appc31:zAC [31,31] 2 16:=zac
@[go_sem] theorem Tryz.load32:zLD 32 (false,1):=zld
@[go_sem] theorem Tryz.sz32:Zqb Tryz.prog 32=some 1:=by kernel_rfl
@[go_sem] theorem Tryz.load35:zLD 35 (false,1):=zld
@[go_sem] theorem Tryz.sz35:Zqb Tryz.prog 35=some 1:=by kernel_rfl
@[go_sem] theorem Tryz.idx35:zIX 35 2:=zix
@[go_sem] theorem Tryz.len35:zLN 35:=zln (m:=2)
@[go_sem] theorem Tryz.bs35:zBS 35 2 [.str [],.int .i64 0]:=zbs (e:=95)
@[go_sem] theorem Tryz.appc35:zAC [35,35] 2 24:=zac
@[go_sem] theorem Tryz.load36:zLD 36 (false,1):=zld
@[go_sem] theorem Tryz.sz36:Zqb Tryz.prog 36=some 1:=by kernel_rfl
@[go_sem] theorem Tryz.idx36:zIX 36 2:=zix
@[go_sem] theorem Tryz.len36:zLN 36:=zln (m:=2)
@[go_sem] theorem Tryz.bs36:zBS 36 2 [.str [],.int .i64 0]:=zbs (e:=96)
@[go_sem] theorem Tryz.appc36:zAC [36,36] 2 24:=zac
@[go_sem] theorem Tryz.load37:zLD 37 (false,1):=zld
@[go_sem] theorem Tryz.sz37:Zqb Tryz.prog 37=some 1:=by kernel_rfl
@[go_sem] theorem Tryz.idx37:zIX 37 8:=zix
@[go_sem] theorem Tryz.len37:zLN 37:=zln (m:=8)
@[go_sem] theorem Tryz.bs37:zBS 37 8 [.str [],.int .u8 0,.int .i64 0,.int .i64 0,.str [],.str [],.nils,.str []]:=zbs (e:=97)
@[go_sem] theorem Tryz.appc37:zAC [37,37] 8 112:=zac
@[go_sem] theorem Tryz.load38:zLD 38 (false,1):=zld
@[go_sem] theorem Tryz.sz38:Zqb Tryz.prog 38=some 1:=by kernel_rfl
@[go_sem] theorem Tryz.idx38:zIX 38 8:=zix
@[go_sem] theorem Tryz.len38:zLN 38:=zln (m:=8)
@[go_sem] theorem Tryz.bs38:zBS 38 8 [.str [],.int .i64 0,.int .i64 0,.nils,.int .i64 0,.str [],.str [],.int .u8 0]:=zbs (e:=98)
@[go_sem] theorem Tryz.appc38:zAC [38,38] 8 104:=zac
@[go_sem] theorem Tryz.load40:zLD 40 (true,6):=zld
@[go_sem] theorem Tryz.sz40:Zqb Tryz.prog 40=some 6:=by kernel_rfl
@[go_sem] theorem Tryz.zero40:Z4c Tryz.prog 40=some [.str [],.nils,.nils,.nils,.nils,.nils]:=by kernel_rfl
@[go_sem] theorem Tryz.bld40:zBD 40 [(0,1),(1,1),(2,1),(3,1),(4,1),(5,1)] [.str [],.nils,.nils,.nils,.nils,.nils]:=zbd
@[go_sem] theorem Tryz.fa40_0:zFA 40 0 (0,false,1):=zfa
@[go_sem] theorem Tryz.fa40_1:zFA 40 1 (1,false,1):=zfa
@[go_sem] theorem Tryz.fa40_2:zFA 40 2 (2,false,1):=zfa
@[go_sem] theorem Tryz.fa40_3:zFA 40 3 (3,false,1):=zfa
@[go_sem] theorem Tryz.fa40_4:zFA 40 4 (4,false,1):=zfa
@[go_sem] theorem Tryz.fa40_5:zFA 40 5 (5,false,1):=zfa
@[go_sem] theorem Tryz.idx42:zIX 42 2:=zix
@[go_sem] theorem Tryz.len42:zLN 42:=zln (m:=2)
@[go_sem] theorem Tryz.bs42:zBS 42 2 [.int .u8 0,.int .i64 0]:=zbs (e:=47)
@[go_sem] theorem Tryz.appc42:zAC [42,42] 2 16:=zac
@[go_sem] theorem Tryz.load47:zLD 47 (true,2):=zld
@[go_sem] theorem Tryz.bld47:zBD 47 [(0,1),(1,1)] [.int .u8 0,.int .i64 0]:=zbd
@[go_sem] theorem Tryz.fa47_0:zFA 47 0 (0,false,1):=zfa
@[go_sem] theorem Tryz.fa47_1:zFA 47 1 (1,false,1):=zfa
@[go_sem] theorem Tryz.eqls47 (x0 y0:Int) (x1 y1:Int):Zqj Tryz.prog .eql 47 (.agg [.int .u8 x0,.int .i64 x1]) (.agg [.int .u8 y0,.int .i64 y1])=some (.bool (x0==y0 && (x1==y1 && true))):=(Z24 (P:=Tryz.prog) (t:=47) (by kernel_rfl) (Z1y (Z1y Zo7 .i64 x1 y1) .u8 x0 y0)).1
@[go_sem] theorem Tryz.load51:zLD 51 (true,8):=zld
@[go_sem] theorem Tryz.sz51:Zqb Tryz.prog 51=some 8:=by kernel_rfl
@[go_sem] theorem Tryz.zero51:Z4c Tryz.prog 51=some [.str [],.int .u8 0,.int .i64 0,.int .i64 0,.str [],.str [],.nils,.str []]:=by kernel_rfl
@[go_sem] theorem Tryz.bld51:zBD 51 [(0,1),(1,1),(2,1),(3,1),(4,1),(5,1),(6,1),(7,1)] [.str [],.int .u8 0,.int .i64 0,.int .i64 0,.str [],.str [],.nils,.str []]:=zbd
@[go_sem] theorem Tryz.fa51_0:zFA 51 0 (0,false,1):=zfa
@[go_sem] theorem Tryz.fa51_1:zFA 51 1 (1,false,1):=zfa
@[go_sem] theorem Tryz.fa51_2:zFA 51 2 (2,false,1):=zfa
@[go_sem] theorem Tryz.fa51_3:zFA 51 3 (3,false,1):=zfa
@[go_sem] theorem Tryz.fa51_4:zFA 51 4 (4,false,1):=zfa
@[go_sem] theorem Tryz.fa51_5:zFA 51 5 (5,false,1):=zfa
@[go_sem] theorem Tryz.fa51_6:zFA 51 6 (6,false,1):=zfa
@[go_sem] theorem Tryz.fa51_7:zFA 51 7 (7,false,1):=zfa
@[go_sem] theorem Tryz.load53:zLD 53 (true,2):=zld
@[go_sem] theorem Tryz.sz53:Zqb Tryz.prog 53=some 2:=by kernel_rfl
@[go_sem] theorem Tryz.zero53:Z4c Tryz.prog 53=some [.str [],.int .i64 0]:=by kernel_rfl
@[go_sem] theorem Tryz.bld53:zBD 53 [(0,1),(1,1)] [.str [],.int .i64 0]:=zbd
@[go_sem] theorem Tryz.fa53_0:zFA 53 0 (0,false,1):=zfa
@[go_sem] theorem Tryz.fa53_1:zFA 53 1 (1,false,1):=zfa
@[go_sem] theorem Tryz.load55:zLD 55 (true,8):=zld
@[go_sem] theorem Tryz.sz55:Zqb Tryz.prog 55=some 8:=by kernel_rfl
@[go_sem] theorem Tryz.zero55:Z4c Tryz.prog 55=some [.str [],.int .i64 0,.int .i64 0,.nils,.int .i64 0,.str [],.str [],.int .u8 0]:=by kernel_rfl
@[go_sem] theorem Tryz.bld55:zBD 55 [(0,1),(1,1),(2,1),(3,1),(4,1),(5,1),(6,1),(7,1)] [.str [],.int .i64 0,.int .i64 0,.nils,.int .i64 0,.str [],.str [],.int .u8 0]:=zbd
@[go_sem] theorem Tryz.fa55_0:zFA 55 0 (0,false,1):=zfa
@[go_sem] theorem Tryz.fa55_1:zFA 55 1 (1,false,1):=zfa
@[go_sem] theorem Tryz.fa55_2:zFA 55 2 (2,false,1):=zfa
@[go_sem] theorem Tryz.fa55_3:zFA 55 3 (3,false,1):=zfa
@[go_sem] theorem Tryz.fa55_4:zFA 55 4 (4,false,1):=zfa
@[go_sem] theorem Tryz.fa55_5:zFA 55 5 (5,false,1):=zfa
@[go_sem] theorem Tryz.fa55_6:zFA 55 6 (6,false,1):=zfa
@[go_sem] theorem Tryz.fa55_7:zFA 55 7 (7,false,1):=zfa
@[go_sem] theorem Tryz.load66:zLD 66 (false,1):=zld
theorem Znx:Z2f Tryz.prog 66=some 1:=by kernel_rfl
@[go_sem] theorem Tryz.idx66:zIX 66 1:=zix
@[go_sem] theorem Tryz.len66:zLN 66:=zln (m:=1)
@[go_sem] theorem Tryz.sl66 (a:V) (lo hi:Option V):Z3e Tryz.prog 66 a lo hi none=slK 1 a lo hi:=Z2h Znx a lo hi
@[go_sem] theorem Tryz.bs66:zBS 66 1 [.int .i64 0]:=zbs (e:=3)
@[go_sem] theorem Tryz.appc66:zAC [66,66] 1 8:=zac
@[go_sem] theorem Tryz.bld92:zBD 92 [(0,1),(1,1)] [.int .u8 0,.int .i64 0]:=zbd
@[go_sem] theorem Tryz.fa92_0:zFA 92 0 (0,false,1):=zfa
@[go_sem] theorem Tryz.fa92_1:zFA 92 1 (1,false,1):=zfa
@[go_sem] theorem Tryz.load94:zLD 94 (true,2):=zld
@[go_sem] theorem Tryz.sz94:Zqb Tryz.prog 94=some 2:=by kernel_rfl
@[go_sem] theorem Tryz.zero94:Z4c Tryz.prog 94=some [.str [],.int .i64 0]:=by kernel_rfl
@[go_sem] theorem Tryz.bld94:zBD 94 [(0,1),(1,1)] [.str [],.int .i64 0]:=zbd
@[go_sem] theorem Tryz.fa94_0:zFA 94 0 (0,false,1):=zfa
@[go_sem] theorem Tryz.fa94_1:zFA 94 1 (1,false,1):=zfa
@[go_sem] theorem Tryz.bld95:zBD 95 [(0,1),(1,1)] [.str [],.int .i64 0]:=zbd
@[go_sem] theorem Tryz.fa95_0:zFA 95 0 (0,false,1):=zfa
@[go_sem] theorem Tryz.load96:zLD 96 (true,2):=zld
@[go_sem] theorem Tryz.sz96:Zqb Tryz.prog 96=some 2:=by kernel_rfl
@[go_sem] theorem Tryz.zero96:Z4c Tryz.prog 96=some [.str [],.int .i64 0]:=by kernel_rfl
@[go_sem] theorem Tryz.bld96:zBD 96 [(0,1),(1,1)] [.str [],.int .i64 0]:=zbd
@[go_sem] theorem Tryz.fa96_0:zFA 96 0 (0,false,1):=zfa
@[go_sem] theorem Tryz.fa96_1:zFA 96 1 (1,false,1):=zfa
@[go_sem] theorem Tryz.load97:zLD 97 (true,8):=zld
@[go_sem] theorem Tryz.sz97:Zqb Tryz.prog 97=some 8:=by kernel_rfl
@[go_sem] theorem Tryz.zero97:Z4c Tryz.prog 97=some [.str [],.int .u8 0,.int .i64 0,.int .i64 0,.str [],.str [],.nils,.str []]:=by kernel_rfl
@[go_sem] theorem Tryz.bld97:zBD 97 [(0,1),(1,1),(2,1),(3,1),(4,1),(5,1),(6,1),(7,1)] [.str [],.int .u8 0,.int .i64 0,.int .i64 0,.str [],.str [],.nils,.str []]:=zbd
@[go_sem] theorem Tryz.fa97_0:zFA 97 0 (0,false,1):=zfa
@[go_sem] theorem Tryz.fa97_1:zFA 97 1 (1,false,1):=zfa
@[go_sem] theorem Tryz.fa97_2:zFA 97 2 (2,false,1):=zfa
@[go_sem] theorem Tryz.fa97_3:zFA 97 3 (3,false,1):=zfa
@[go_sem] theorem Tryz.fa97_4:zFA 97 4 (4,false,1):=zfa
@[go_sem] theorem Tryz.fa97_5:zFA 97 5 (5,false,1):=zfa
@[go_sem] theorem Tryz.fa97_6:zFA 97 6 (6,false,1):=zfa
@[go_sem] theorem Tryz.fa97_7:zFA 97 7 (7,false,1):=zfa
@[go_sem] theorem Tryz.load98:zLD 98 (true,8):=zld
@[go_sem] theorem Tryz.sz98:Zqb Tryz.prog 98=some 8:=by kernel_rfl
@[go_sem] theorem Tryz.zero98:Z4c Tryz.prog 98=some [.str [],.int .i64 0,.int .i64 0,.nils,.int .i64 0,.str [],.str [],.int .u8 0]:=by kernel_rfl
@[go_sem] theorem Tryz.bld98:zBD 98 [(0,1),(1,1),(2,1),(3,1),(4,1),(5,1),(6,1),(7,1)] [.str [],.int .i64 0,.int .i64 0,.nils,.int .i64 0,.str [],.str [],.int .u8 0]:=zbd
@[go_sem] theorem Tryz.fa98_0:zFA 98 0 (0,false,1):=zfa
@[go_sem] theorem Tryz.fa98_1:zFA 98 1 (1,false,1):=zfa
@[go_sem] theorem Tryz.fa98_2:zFA 98 2 (2,false,1):=zfa
@[go_sem] theorem Tryz.fa98_3:zFA 98 3 (3,false,1):=zfa
@[go_sem] theorem Tryz.fa98_4:zFA 98 4 (4,false,1):=zfa
@[go_sem] theorem Tryz.fa98_5:zFA 98 5 (5,false,1):=zfa
@[go_sem] theorem Tryz.fa98_6:zFA 98 6 (6,false,1):=zfa
@[go_sem] theorem Tryz.fa98_7:zFA 98 7 (7,false,1):=zfa
@[go_sem] theorem Z79:zLD 100 (false,1):=zld
@[go_sem] theorem Z69:zLD 103 (true,16):=zld
@[go_sem] theorem Tryz.sz103:Zqb Tryz.prog 103=some 16:=by kernel_rfl
@[go_sem] theorem Zg9:Z4c Tryz.prog 103=some [.nilf,.nilf,.nilf,.nilf,.nilf,.nilf,.nilf,.nilf,.nilf,.nilf,.nilf,.nilf,.nilf,.nilf,.nilf,.nilf]:=by kernel_rfl
@[go_sem] theorem Tryz.iv103 (l:List V) (ik:IntKind) (n:Int):Zqh Tryz.prog 103 (.agg l) (.int ik n)=if 0≤n∧n<(16:Nat) then Zgl false 1 l (n.toNat * 1) else none:=Zuy (P:=Tryz.prog) (e:=102) (by kernel_rfl) (by kernel_rfl) (by kernel_rfl) (by decide) l ik n
@[go_sem] theorem Tryz.bla103 (l:List (Nat × V)):Z3f Tryz.prog 103 l=(Zwd (Zl8 1) [.nilf,.nilf,.nilf,.nilf,.nilf,.nilf,.nilf,.nilf,.nilf,.nilf,.nilf,.nilf,.nilf,.nilf,.nilf,.nilf] l).map .agg:=Z6m (P:=Tryz.prog) (N:=16) (e:=102) (by kernel_rfl) (by kernel_rfl) (by kernel_rfl) l
@[go_sem] theorem Z59:zLD 135 (false,1):=zld
@[go_sem] theorem Tryz.sz135:Zqb Tryz.prog 135=some 1:=by kernel_rfl
@[go_sem] theorem Zf9:Z4c Tryz.prog 135=some [.nilf]:=by kernel_rfl
@[go_sem] theorem Z49:zLD 136 (false,1):=zld
@[go_sem] theorem Tryz.idx136:zIX 136 1:=zix
@[go_sem] theorem Tryz.len136:zLN 136:=zln (m:=1)
@[go_sem] theorem Tryz.bs136:zBS 136 1 [.int .u8 0]:=zbs (e:=5)
@[go_sem] theorem Z5ba:zAC [136,136] 1 1:=zac
@[go_sem] theorem Tryz.bld138:zBD 138 [(0,6),(6,1)] [.str [],.nils,.nils,.nils,.nils,.nils,.nils]:=zbd
@[go_sem] theorem Zxba:zFA 138 0 (0,true,6):=zfa
@[go_sem] theorem Zwba:zFA 138 1 (6,false,1):=zfa
@[go_sem] theorem Z39:zLD 140 (true,3):=zld
@[go_sem] theorem Tryz.sz140:Zqb Tryz.prog 140=some 3:=by kernel_rfl
@[go_sem] theorem Ze9:Z4c Tryz.prog 140=some [.int .u8 0,.int .i64 0,.int .i64 0]:=by kernel_rfl
@[go_sem] theorem Tryz.bld140:zBD 140 [(0,1),(1,1),(2,1)] [.int .u8 0,.int .i64 0,.int .i64 0]:=zbd
@[go_sem] theorem Zvba:zFA 140 0 (0,false,1):=zfa
@[go_sem] theorem Zuba:zFA 140 1 (1,false,1):=zfa
@[go_sem] theorem Ztba:zFA 140 2 (2,false,1):=zfa
@[go_sem] theorem Z29:zLD 142 (false,1):=zld
@[go_sem] theorem Tryz.bld144:zBD 144 [(0,6),(6,1),(7,1)] [.str [],.nils,.nils,.nils,.nils,.nils,.nils,.nils]:=zbd
@[go_sem] theorem Zsba:zFA 144 0 (0,true,6):=zfa
@[go_sem] theorem Zrba:zFA 144 1 (6,false,1):=zfa
@[go_sem] theorem Zqba:zFA 144 2 (7,false,1):=zfa
@[go_sem] theorem Tryz.idx178:zIX 178 1:=zix
@[go_sem] theorem Tryz.len178:zLN 178:=zln (m:=1)
@[go_sem] theorem Tryz.bs178:zBS 178 1 [.nilf]:=zbs (e:=142)
@[go_sem] theorem Z19:zLD 195 (false,1):=zld
@[go_sem] theorem Tryz.sz195:Zqb Tryz.prog 195=some 1:=by kernel_rfl
@[go_sem] theorem Tryz.idx195:zIX 195 6:=zix
@[go_sem] theorem Tryz.len195:zLN 195:=zln (m:=6)
@[go_sem] theorem Tryz.bs195:zBS 195 6 [.int .u8 0,.int .i64 0,.str [],.int .i64 0,.int .i64 0,.int .i64 0]:=zbs (e:=239)
@[go_sem] theorem Z4ba:zAC [195,195] 6 56:=zac
@[go_sem] theorem Z09:zLD 197 (true,1):=zld
@[go_sem] theorem Tryz.sz197:Zqb Tryz.prog 197=some 1:=by kernel_rfl
@[go_sem] theorem Zd9:Z4c Tryz.prog 197=some [.nils]:=by kernel_rfl
@[go_sem] theorem Tryz.bld197:zBD 197 [(0,1)] [.nils]:=zbd
@[go_sem] theorem Zpba:zFA 197 0 (0,false,1):=zfa
@[go_sem] theorem Zz9:zLD 200 (false,1):=zld
theorem Z7u:Z2f Tryz.prog 200=some 3:=by kernel_rfl
@[go_sem] theorem Tryz.idx200:zIX 200 3:=zix
@[go_sem] theorem Tryz.len200:zLN 200:=zln (m:=3)
@[go_sem] theorem Tryz.sl200 (a:V) (lo hi:Option V):Z3e Tryz.prog 200 a lo hi none=slK 3 a lo hi:=Z2h Z7u a lo hi
@[go_sem] theorem Tryz.bs200:zBS 200 3 [.int .u8 0,.str [],.int .i64 0]:=zbs (e:=237)
@[go_sem] theorem Z3ba:zAC [200,200] 3 32:=zac
@[go_sem] theorem Tryz.idx221:zIX 221 3:=zix
@[go_sem] theorem Tryz.len221:zLN 221:=zln (m:=3)
@[go_sem] theorem Tryz.bs221:zBS 221 3 [.int .u8 0,.str [],.nils]:=zbs (e:=269)
@[go_sem] theorem Z2ba:zAC [221,221] 3 48:=zac
@[go_sem] theorem Zy9:zLD 226 (false,1):=zld
@[go_sem] theorem Tryz.sz226:Zqb Tryz.prog 226=some 1:=by kernel_rfl
@[go_sem] theorem Tryz.idx226:zIX 226 6:=zix
@[go_sem] theorem Tryz.len226:zLN 226:=zln (m:=6)
@[go_sem] theorem Tryz.bs226:zBS 226 6 [.int .u8 0,.int .i64 0,.str [],.int .i64 0,.int .i64 0,.int .i64 0]:=zbs (e:=274)
@[go_sem] theorem Z1ba:zAC [226,226] 6 56:=zac
@[go_sem] theorem Zx9:zLD 229 (false,1):=zld
theorem Z6u:Z2f Tryz.prog 229=some 3:=by kernel_rfl
@[go_sem] theorem Tryz.idx229:zIX 229 3:=zix
@[go_sem] theorem Tryz.len229:zLN 229:=zln (m:=3)
@[go_sem] theorem Tryz.sl229 (a:V) (lo hi:Option V):Z3e Tryz.prog 229 a lo hi none=slK 3 a lo hi:=Z2h Z6u a lo hi
@[go_sem] theorem Tryz.bs229:zBS 229 3 [.int .u8 0,.str [],.int .i64 0]:=zbs (e:=267)
@[go_sem] theorem Z0ba:zAC [229,229] 3 32:=zac
@[go_sem] theorem Zw9:zLD 237 (true,3):=zld
@[go_sem] theorem Tryz.sz237:Zqb Tryz.prog 237=some 3:=by kernel_rfl
@[go_sem] theorem Zc9:Z4c Tryz.prog 237=some [.int .u8 0,.str [],.int .i64 0]:=by kernel_rfl
@[go_sem] theorem Tryz.bld237:zBD 237 [(0,1),(1,1),(2,1)] [.int .u8 0,.str [],.int .i64 0]:=zbd
@[go_sem] theorem Zoba:zFA 237 0 (0,false,1):=zfa
@[go_sem] theorem Znba:zFA 237 1 (1,false,1):=zfa
@[go_sem] theorem Zmba:zFA 237 2 (2,false,1):=zfa
@[go_sem] theorem Zv9:zLD 239 (true,6):=zld
@[go_sem] theorem Tryz.sz239:Zqb Tryz.prog 239=some 6:=by kernel_rfl
@[go_sem] theorem Zb9:Z4c Tryz.prog 239=some [.int .u8 0,.int .i64 0,.str [],.int .i64 0,.int .i64 0,.int .i64 0]:=by kernel_rfl
@[go_sem] theorem Tryz.bld239:zBD 239 [(0,1),(1,1),(2,1),(3,1),(4,1),(5,1)] [.int .u8 0,.int .i64 0,.str [],.int .i64 0,.int .i64 0,.int .i64 0]:=zbd
@[go_sem] theorem Zlba:zFA 239 0 (0,false,1):=zfa
@[go_sem] theorem Zkba:zFA 239 1 (1,false,1):=zfa
@[go_sem] theorem Zjba:zFA 239 2 (2,false,1):=zfa
@[go_sem] theorem Ziba:zFA 239 3 (3,false,1):=zfa
@[go_sem] theorem Zhba:zFA 239 4 (4,false,1):=zfa
@[go_sem] theorem Zgba:zFA 239 5 (5,false,1):=zfa
@[go_sem] theorem Zu9:zLD 243 (false,1):=zld
@[go_sem] theorem Tryz.sz243:Zqb Tryz.prog 243=some 1:=by kernel_rfl
@[go_sem] theorem Tryz.idx243:zIX 243 3:=zix
@[go_sem] theorem Tryz.len243:zLN 243:=zln (m:=3)
@[go_sem] theorem Tryz.bs243:zBS 243 3 [.int .u8 0,.str [],.nils]:=zbs (e:=291)
@[go_sem] theorem Zzba:zAC [243,243] 3 48:=zac
@[go_sem] theorem Zt9:zLD 245 (true,1):=zld
@[go_sem] theorem Tryz.sz245:Zqb Tryz.prog 245=some 1:=by kernel_rfl
@[go_sem] theorem Za9:Z4c Tryz.prog 245=some [.nils]:=by kernel_rfl
@[go_sem] theorem Tryz.bld245:zBD 245 [(0,1)] [.nils]:=zbd
@[go_sem] theorem Zfba:zFA 245 0 (0,false,1):=zfa
@[go_sem] theorem Tryz.bld267:zBD 267 [(0,1),(1,1),(2,1)] [.int .u8 0,.str [],.int .i64 0]:=zbd
@[go_sem] theorem Zeba:zFA 267 0 (0,false,1):=zfa
@[go_sem] theorem Zdba:zFA 267 1 (1,false,1):=zfa
@[go_sem] theorem Zcba:zFA 267 2 (2,false,1):=zfa
@[go_sem] theorem Zs9:zLD 269 (true,3):=zld
@[go_sem] theorem Tryz.sz269:Zqb Tryz.prog 269=some 3:=by kernel_rfl
@[go_sem] theorem Z98:Z4c Tryz.prog 269=some [.int .u8 0,.str [],.nils]:=by kernel_rfl
@[go_sem] theorem Tryz.bld269:zBD 269 [(0,1),(1,1),(2,1)] [.int .u8 0,.str [],.nils]:=zbd
@[go_sem] theorem Zbba:zFA 269 0 (0,false,1):=zfa
@[go_sem] theorem Zaba:zFA 269 1 (1,false,1):=zfa
@[go_sem] theorem Z9aa:zFA 269 2 (2,false,1):=zfa
@[go_sem] theorem Zr9:zLD 274 (true,6):=zld
@[go_sem] theorem Tryz.sz274:Zqb Tryz.prog 274=some 6:=by kernel_rfl
@[go_sem] theorem Z88:Z4c Tryz.prog 274=some [.int .u8 0,.int .i64 0,.str [],.int .i64 0,.int .i64 0,.int .i64 0]:=by kernel_rfl
@[go_sem] theorem Tryz.bld274:zBD 274 [(0,1),(1,1),(2,1),(3,1),(4,1),(5,1)] [.int .u8 0,.int .i64 0,.str [],.int .i64 0,.int .i64 0,.int .i64 0]:=zbd
@[go_sem] theorem Z8aa:zFA 274 0 (0,false,1):=zfa
@[go_sem] theorem Z7aa:zFA 274 1 (1,false,1):=zfa
@[go_sem] theorem Z6aa:zFA 274 2 (2,false,1):=zfa
@[go_sem] theorem Z5aa:zFA 274 3 (3,false,1):=zfa
@[go_sem] theorem Z4aa:zFA 274 4 (4,false,1):=zfa
@[go_sem] theorem Z3aa:zFA 274 5 (5,false,1):=zfa
@[go_sem] theorem Tryz.ia280 (a:V) (ik:IntKind) (n:Int):Z2b Tryz.prog 280 a (.int ik n)=idxA 14 1 false a ik n:=Zrh (P:=Tryz.prog) (e:=9) (by kernel_rfl) (by kernel_rfl) (by kernel_rfl) (by decide) a ik n
@[go_sem] theorem Tryz.bld286:zBD 286 [(0,1),(1,1),(2,1)] [.nils,.int .i64 0,.int .i64 0]:=zbd
@[go_sem] theorem Z2aa:zFA 286 0 (0,false,1):=zfa
@[go_sem] theorem Z1aa:zFA 286 1 (1,false,1):=zfa
@[go_sem] theorem Z0aa:zFA 286 2 (2,false,1):=zfa
@[go_sem] theorem Tryz.bld288:zBD 288 [(0,3),(3,1)] [.nils,.int .i64 0,.int .i64 0,.nils]:=zbd
@[go_sem] theorem Zzaa:zFA 288 0 (0,true,3):=zfa
@[go_sem] theorem Zyaa:zFA 288 1 (3,false,1):=zfa
@[go_sem] theorem Zq9:zLD 291 (true,3):=zld
@[go_sem] theorem Tryz.sz291:Zqb Tryz.prog 291=some 3:=by kernel_rfl
@[go_sem] theorem Z78:Z4c Tryz.prog 291=some [.int .u8 0,.str [],.nils]:=by kernel_rfl
@[go_sem] theorem Zxaa:zFA 291 0 (0,false,1):=zfa
@[go_sem] theorem Zwaa:zFA 291 1 (1,false,1):=zfa
@[go_sem] theorem Zvaa:zFA 291 2 (2,true,1):=zfa
@[go_sem] theorem Zp9:zLD 307 (false,1):=zld
@[go_sem] theorem Tryz.bld309:zBD 309 [(0,1),(1,1),(2,1),(3,1),(4,1)] [.nils,.int .i64 0,.nils,.int .i64 0,.nilf]:=zbd
@[go_sem] theorem Zuaa:zFA 309 0 (0,false,1):=zfa
@[go_sem] theorem Ztaa:zFA 309 1 (1,false,1):=zfa
@[go_sem] theorem Zsaa:zFA 309 2 (2,false,1):=zfa
@[go_sem] theorem Zraa:zFA 309 3 (3,false,1):=zfa
@[go_sem] theorem Zqaa:zFA 309 4 (4,false,1):=zfa
@[go_sem] theorem Zo9:zLD 313 (true,3):=zld
@[go_sem] theorem Tryz.sz313:Zqb Tryz.prog 313=some 3:=by kernel_rfl
@[go_sem] theorem Z68:Z4c Tryz.prog 313=some [.int .u8 0,.int .u8 0,.int .u8 0]:=by kernel_rfl
@[go_sem] theorem Tryz.bld313:zBD 313 [(0,1),(1,1),(2,1)] [.int .u8 0,.int .u8 0,.int .u8 0]:=zbd
@[go_sem] theorem Zpaa:zFA 313 0 (0,false,1):=zfa
@[go_sem] theorem Zoaa:zFA 313 1 (1,false,1):=zfa
@[go_sem] theorem Znaa:zFA 313 2 (2,false,1):=zfa
@[go_sem] theorem Zn9:zLD 315 (true,4):=zld
@[go_sem] theorem Tryz.sz315:Zqb Tryz.prog 315=some 4:=by kernel_rfl
@[go_sem] theorem Z58:Z4c Tryz.prog 315=some [.int .u8 0,.int .u8 0,.int .u8 0,.int .u8 0]:=by kernel_rfl
@[go_sem] theorem Tryz.bld315:zBD 315 [(0,3),(3,1)] [.int .u8 0,.int .u8 0,.int .u8 0,.int .u8 0]:=zbd
@[go_sem] theorem Zmaa:zFA 315 0 (0,true,3):=zfa
@[go_sem] theorem Zlaa:zFA 315 1 (3,false,1):=zfa
@[go_sem] theorem Zm9:zLD 316 (true,92):=zld
@[go_sem] theorem Tryz.sz316:Zqb Tryz.prog 316=some 92:=by kernel_rfl
@[go_sem] theorem Z48:Z4c Tryz.prog 316=some (.int .u8 0 :: .int .u8 0 :: .int .u8 0 :: .int .u8 0 :: .int .u8 0 :: .int .u8 0 :: .int .u8 0 :: .int .u8 0 :: .int .u8 0 :: .int .u8 0 :: .int .u8 0 :: .int .u8 0 :: .int .u8 0 :: .int .u8 0 :: .int .u8 0 :: .int .u8 0 :: .int .u8 0 :: .int .u8 0 :: .int .u8 0 :: .int .u8 0 :: .int .u8 0 :: .int .u8 0 :: .int .u8 0 :: .int .u8 0 :: .int .u8 0 :: .int .u8 0 :: .int .u8 0 :: .int .u8 0 :: .int .u8 0 :: .int .u8 0 :: .int .u8 0 :: .int .u8 0 :: .int .u8 0 :: .int .u8 0 :: .int .u8 0 :: .int .u8 0 :: .int .u8 0 :: .int .u8 0 :: .int .u8 0 :: .int .u8 0 :: .int .u8 0 :: .int .u8 0 :: .int .u8 0 :: .int .u8 0 :: .int .u8 0 :: .int .u8 0 :: .int .u8 0 :: .int .u8 0 :: .int .u8 0 :: .int .u8 0 :: .int .u8 0 :: .int .u8 0 :: .int .u8 0 :: .int .u8 0 :: .int .u8 0 :: .int .u8 0 :: .int .u8 0 :: .int .u8 0 :: .int .u8 0 :: .int .u8 0 :: .int .u8 0 :: .int .u8 0 :: .int .u8 0 :: .int .u8 0 :: .int .u8 0 :: .int .u8 0 :: .int .u8 0 :: .int .u8 0 :: .int .u8 0 :: .int .u8 0 :: .int .u8 0 :: .int .u8 0 :: .int .u8 0 :: .int .u8 0 :: .int .u8 0 :: .int .u8 0 :: .int .u8 0 :: .int .u8 0 :: .int .u8 0 :: .int .u8 0 :: .int .u8 0 :: .int .u8 0 :: .int .u8 0 :: .int .u8 0 :: .int .u8 0 :: .int .u8 0 :: .int .u8 0 :: .int .u8 0 :: .int .u8 0 :: .int .u8 0 :: .int .u8 0 :: .int .u8 0::[]):=by kernel_rfl
@[go_sem] theorem Tryz.ia316 (a:V) (ik:IntKind) (n:Int):Z2b Tryz.prog 316 a (.int ik n)=idxA 23 4 true a ik n:=Zrh (P:=Tryz.prog) (e:=315) (by kernel_rfl) (by kernel_rfl) (by kernel_rfl) (by decide) a ik n
@[go_sem] theorem Tryz.bla316 (l:List (Nat × V)):Z3f Tryz.prog 316 l=(Zwd (Zl8 4) (.int .u8 0 :: .int .u8 0 :: .int .u8 0 :: .int .u8 0 :: .int .u8 0 :: .int .u8 0 :: .int .u8 0 :: .int .u8 0 :: .int .u8 0 :: .int .u8 0 :: .int .u8 0 :: .int .u8 0 :: .int .u8 0 :: .int .u8 0 :: .int .u8 0 :: .int .u8 0 :: .int .u8 0 :: .int .u8 0 :: .int .u8 0 :: .int .u8 0 :: .int .u8 0 :: .int .u8 0 :: .int .u8 0 :: .int .u8 0 :: .int .u8 0 :: .int .u8 0 :: .int .u8 0 :: .int .u8 0 :: .int .u8 0 :: .int .u8 0 :: .int .u8 0 :: .int .u8 0 :: .int .u8 0 :: .int .u8 0 :: .int .u8 0 :: .int .u8 0 :: .int .u8 0 :: .int .u8 0 :: .int .u8 0 :: .int .u8 0 :: .int .u8 0 :: .int .u8 0 :: .int .u8 0 :: .int .u8 0 :: .int .u8 0 :: .int .u8 0 :: .int .u8 0 :: .int .u8 0 :: .int .u8 0 :: .int .u8 0 :: .int .u8 0 :: .int .u8 0 :: .int .u8 0 :: .int .u8 0 :: .int .u8 0 :: .int .u8 0 :: .int .u8 0 :: .int .u8 0 :: .int .u8 0 :: .int .u8 0 :: .int .u8 0 :: .int .u8 0 :: .int .u8 0 :: .int .u8 0 :: .int .u8 0 :: .int .u8 0 :: .int .u8 0 :: .int .u8 0 :: .int .u8 0 :: .int .u8 0 :: .int .u8 0 :: .int .u8 0 :: .int .u8 0 :: .int .u8 0 :: .int .u8 0 :: .int .u8 0 :: .int .u8 0 :: .int .u8 0 :: .int .u8 0 :: .int .u8 0 :: .int .u8 0 :: .int .u8 0 :: .int .u8 0 :: .int .u8 0 :: .int .u8 0 :: .int .u8 0 :: .int .u8 0 :: .int .u8 0 :: .int .u8 0 :: .int .u8 0 :: .int .u8 0 :: .int .u8 0::[]) l).map .agg:=Z6m (P:=Tryz.prog) (N:=23) (e:=315) (by kernel_rfl) (by kernel_rfl) (by kernel_rfl) l
@[go_sem] theorem Zl9:zLD 319 (true,93):=zld
@[go_sem] theorem Tryz.sz319:Zqb Tryz.prog 319=some 93:=by kernel_rfl
@[go_sem] theorem Zkaa:zFA 319 0 (0,true,92):=zfa
@[go_sem] theorem Zjaa:zFA 319 1 (92,false,1):=zfa
@[go_sem] theorem Tryz.bld330:zBD 330 [(0,1),(1,1),(2,1),(3,1)] [.nils,.int .i64 0,.nils,.int .i64 0]:=zbd
@[go_sem] theorem Ziaa:zFA 330 0 (0,false,1):=zfa
@[go_sem] theorem Zhaa:zFA 330 1 (1,false,1):=zfa
@[go_sem] theorem Zgaa:zFA 330 2 (2,false,1):=zfa
@[go_sem] theorem Zfaa:zFA 330 3 (3,false,1):=zfa
@[go_sem] theorem Zk9:zLD 335 (true,3):=zld
@[go_sem] theorem Tryz.bld335:zBD 335 [(0,1),(1,1),(2,1)] [.str [],.int .i64 0,.int .i64 0]:=zbd
@[go_sem] theorem Zeaa:zFA 335 0 (0,false,1):=zfa
@[go_sem] theorem Zdaa:zFA 335 1 (1,false,1):=zfa
@[go_sem] theorem Zcaa:zFA 335 2 (2,false,1):=zfa
@[go_sem] theorem Zj9:zLD 336 (true,69):=zld
@[go_sem] theorem Tryz.sz336:Zqb Tryz.prog 336=some 69:=by kernel_rfl
@[go_sem] theorem Z38:Z4c Tryz.prog 336=some (.str [] :: .int .i64 0 :: .int .i64 0 :: .str [] :: .int .i64 0 :: .int .i64 0 :: .str [] :: .int .i64 0 :: .int .i64 0 :: .str [] :: .int .i64 0 :: .int .i64 0 :: .str [] :: .int .i64 0 :: .int .i64 0 :: .str [] :: .int .i64 0 :: .int .i64 0 :: .str [] :: .int .i64 0 :: .int .i64 0 :: .str [] :: .int .i64 0 :: .int .i64 0 :: .str [] :: .int .i64 0 :: .int .i64 0 :: .str [] :: .int .i64 0 :: .int .i64 0 :: .str [] :: .int .i64 0 :: .int .i64 0 :: .str [] :: .int .i64 0 :: .int .i64 0 :: .str [] :: .int .i64 0 :: .int .i64 0 :: .str [] :: .int .i64 0 :: .int .i64 0 :: .str [] :: .int .i64 0 :: .int .i64 0 :: .str [] :: .int .i64 0 :: .int .i64 0 :: .str [] :: .int .i64 0 :: .int .i64 0 :: .str [] :: .int .i64 0 :: .int .i64 0 :: .str [] :: .int .i64 0 :: .int .i64 0 :: .str [] :: .int .i64 0 :: .int .i64 0 :: .str [] :: .int .i64 0 :: .int .i64 0 :: .str [] :: .int .i64 0 :: .int .i64 0 :: .str [] :: .int .i64 0 :: .int .i64 0::[]):=by kernel_rfl
@[go_sem] theorem Tryz.ia336 (a:V) (ik:IntKind) (n:Int):Z2b Tryz.prog 336 a (.int ik n)=idxA 23 3 true a ik n:=Zrh (P:=Tryz.prog) (e:=335) (by kernel_rfl) (by kernel_rfl) (by kernel_rfl) (by decide) a ik n
@[go_sem] theorem Tryz.bla336 (l:List (Nat × V)):Z3f Tryz.prog 336 l=(Zwd (Zl8 3) (.str [] :: .int .i64 0 :: .int .i64 0 :: .str [] :: .int .i64 0 :: .int .i64 0 :: .str [] :: .int .i64 0 :: .int .i64 0 :: .str [] :: .int .i64 0 :: .int .i64 0 :: .str [] :: .int .i64 0 :: .int .i64 0 :: .str [] :: .int .i64 0 :: .int .i64 0 :: .str [] :: .int .i64 0 :: .int .i64 0 :: .str [] :: .int .i64 0 :: .int .i64 0 :: .str [] :: .int .i64 0 :: .int .i64 0 :: .str [] :: .int .i64 0 :: .int .i64 0 :: .str [] :: .int .i64 0 :: .int .i64 0 :: .str [] :: .int .i64 0 :: .int .i64 0 :: .str [] :: .int .i64 0 :: .int .i64 0 :: .str [] :: .int .i64 0 :: .int .i64 0 :: .str [] :: .int .i64 0 :: .int .i64 0 :: .str [] :: .int .i64 0 :: .int .i64 0 :: .str [] :: .int .i64 0 :: .int .i64 0 :: .str [] :: .int .i64 0 :: .int .i64 0 :: .str [] :: .int .i64 0 :: .int .i64 0 :: .str [] :: .int .i64 0 :: .int .i64 0 :: .str [] :: .int .i64 0 :: .int .i64 0 :: .str [] :: .int .i64 0 :: .int .i64 0 :: .str [] :: .int .i64 0 :: .int .i64 0::[]) l).map .agg:=Z6m (P:=Tryz.prog) (N:=23) (e:=335) (by kernel_rfl) (by kernel_rfl) (by kernel_rfl) l
theorem Z5u:Z2f Tryz.prog 343=some 2:=by kernel_rfl
@[go_sem] theorem Tryz.idx343:zIX 343 2:=zix
@[go_sem] theorem Tryz.len343:zLN 343:=zln (m:=2)
@[go_sem] theorem Tryz.sl343 (a:V) (lo hi:Option V):Z3e Tryz.prog 343 a lo hi none=slK 2 a lo hi:=Z2h Z5u a lo hi
@[go_sem] theorem Tryz.bs343:zBS 343 2 [.int .i64 0,.int .i64 0]:=zbs (e:=346)
@[go_sem] theorem Zyba:zAC [343,343] 2 16:=zac
@[go_sem] theorem Zi9:zLD 346 (true,2):=zld
@[go_sem] theorem Tryz.sz346:Zqb Tryz.prog 346=some 2:=by kernel_rfl
@[go_sem] theorem Z28:Z4c Tryz.prog 346=some [.int .i64 0,.int .i64 0]:=by kernel_rfl
@[go_sem] theorem Tryz.bld346:zBD 346 [(0,1),(1,1)] [.int .i64 0,.int .i64 0]:=zbd
@[go_sem] theorem Zbaa:zFA 346 0 (0,false,1):=zfa
@[go_sem] theorem Zaaa:zFA 346 1 (1,false,1):=zfa
@[go_sem] theorem Tryz.idx359:zIX 359 3:=zix
@[go_sem] theorem Tryz.len359:zLN 359:=zln (m:=3)
@[go_sem] theorem Tryz.iv370 (l:List V) (ik:IntKind) (n:Int):Zqh Tryz.prog 370 (.agg l) (.int ik n)=if 0≤n∧n<(3:Nat) then Zgl false 1 l (n.toNat * 1) else none:=Zuy (P:=Tryz.prog) (e:=9) (by kernel_rfl) (by kernel_rfl) (by kernel_rfl) (by decide) l ik n
@[go_sem] theorem Tryz.bla370 (l:List (Nat × V)):Z3f Tryz.prog 370 l=(Zwd (Zl8 1) [.str [],.str [],.str []] l).map .agg:=Z6m (P:=Tryz.prog) (N:=3) (e:=9) (by kernel_rfl) (by kernel_rfl) (by kernel_rfl) l
@[go_sem] theorem Zh9:zLD 385 (true,2):=zld
@[go_sem] theorem Tryz.bld385:zBD 385 [(0,1),(1,1)] [.nils,.bool false]:=zbd
@[go_sem] theorem Z99:zFA 385 0 (0,false,1):=zfa
@[go_sem] theorem Z89:zFA 385 1 (1,false,1):=zfa
@[go_sem] theorem Tryz.cv3_5 (k:IntKind) (n:Int):Zpu Tryz.prog 3 5 (.int k n)=some (.int .u8 (IntKind.wrap .u8 n)):=Z3y (P:=Tryz.prog) (s:=3) (d:=5) (by kernel_rfl) (by kernel_rfl) k n
@[go_sem] theorem Tryz.cv5_3 (k:IntKind) (n:Int):Zpu Tryz.prog 5 3 (.int k n)=some (.int .i64 (IntKind.wrap .i64 n)):=Z3y (P:=Tryz.prog) (s:=5) (d:=3) (by kernel_rfl) (by kernel_rfl) k n
end Go.Hs
end
