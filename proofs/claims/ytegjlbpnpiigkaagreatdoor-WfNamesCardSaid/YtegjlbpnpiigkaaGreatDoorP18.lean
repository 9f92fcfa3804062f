/- A part. No condition. -/
import Derived.Test.YtegjlbpnpiigkaaGreatDoorP17
import Derived.Test.YtegjlbpnpiigkaaGreatDoorProg
import Derived.KernelRfl
set_option linter.all false
namespace Go.Hs
open Go.Proofs
abbrev zFA(t n:Nat)(x:Nat×Bool×Nat):Prop:=∀ a,Z3c Tryz.prog t a n=fldK (some x) a
theorem zfa{t n:Nat}{x:Nat×Bool×Nat}(h:fldOf Tryz.prog t n=some x:=by kernel_rfl):zFA t n x:=λa=>Z8q h a
abbrev zLD(t:Nat)(x:Bool×Nat):Prop:=∀ (H:Heap) (a:V),Zfb Tryz.prog H t a=Zwj (some x) (obOf H a) a
theorem zld{t n:Nat}{b:Bool}(h:Zpu Tryz.prog t=some (b,n):=by kernel_rfl):zLD t (b,n):=λH a=>readV_K h H a
abbrev zIX(t m:Nat):Prop:=∀ a i:V,Zab Tryz.prog t a i=idxK (some m) a i
theorem zix{t m:Nat}(h:Zff Tryz.prog t=some m:=by kernel_rfl):zIX t m:=λa i=>Z0q h a i
abbrev zLN(t:Nat):Prop:=∀ a:V,Z44 Tryz.prog t a=Zsz true a
theorem zln{t m:Nat}(h:Zff Tryz.prog t=some m:=by kernel_rfl):zLN t:=λa=>Z81 h a
abbrev zAC(l:List Nat)(m b:Nat):Prop:=∀ (E:Ent) (ops:Array Oper) (Q:AS->Prop) (rest:List Oper) (e:Nat) (τ : Nat->V) (H:Heap) (x y:V),appC Tryz.prog E ops Q rest e τ H l x y=appE Tryz.prog E ops Q rest e τ H m b x (Zfc H m y) (obS H x)
theorem zac{l:List Nat}{m b:Nat}(h:appOf Tryz.prog l=some (m,b):=by kernel_rfl):zAC l m b:=λE ops Q rest e τ H x y=>appC_E ops h e x y
abbrev zBD(t:Nat)(T:List (Nat×Nat))(Z:List V):Prop:=∀ l:List (Nat×V),Zie Tryz.prog t l=(Zuc (tblP T) Z l).map .agg
theorem zbd{t:Nat}{T:List (Nat×Nat)}{Z:List V}(h:tblOf Tryz.prog t=some T:=by kernel_rfl)(h2:Zae Tryz.prog t=some (.agg Z):=by kernel_rfl):zBD t T Z:=λl=>Z1z h h2 l
abbrev zBS(t m:Nat)(Z:List V):Prop:=∀ (n:Nat) (l:List (Nat×V)),Z3l Tryz.prog t n l=bsK m Z n l
theorem zbs{t m e:Nat}{Z:List V}(h:Tryz.prog.underlying t=some (.slice e):=by kernel_rfl)(h2:Zbb Tryz.prog e=some m:=by kernel_rfl)(h3:Zwc Tryz.prog e=some Z:=by kernel_rfl)(h4:Z.length=m:=by rfl):zBS t m Z:=λn l=>Zw8 h h2 h3 h4 n l
theorem Zw3:zLD 2 (false,1):=zld
theorem Zv3:zLD 3 (false,1):=zld
theorem Z6ca:Zbb Tryz.prog 3=some 1:=by kernel_rfl
theorem Zu3:zLD 5 (false,1):=zld
theorem Z5ca:Zbb Tryz.prog 5=some 1:=by kernel_rfl
theorem Zt3:zLD 9 (false,1):=zld
theorem Z4ca:Zbb Tryz.prog 9=some 1:=by kernel_rfl
attribute[go_sem]Zw3 Zv3 Z6ca Zu3 Z5ca Zt3 Z4ca
theorem Zem:Zev Tryz.prog 9=true:=by kernel_rfl
theorem Zq9(a:V):Z44 Tryz.prog 9 a=Zsz false a:=Z3ba Zem a
theorem Zr9(s:List UInt8)(k:IntKind)(n:Int):Zwf Tryz.prog 9 (.str s) (.int k n)=if 0<=n then(s[n.toNat]?).map λb=>.int .u8 b.toNat else none:=Zf2 Zem s k n
theorem Zi9(s:List UInt8)(lo hi:Option V):Zpe Tryz.prog 9 (.str s) lo hi none=slJ (Zba 0 lo) (Zba s.length hi) λi j=>if i<=j/\j<=s.length then some (.str ((s.drop i).take (j-i)))else none:=Zx0 Zem s lo hi
theorem Zow:zLD 22 (false,1):=zld
theorem Zh9:Zbb Tryz.prog 22=some 1:=by kernel_rfl
attribute[go_sem]Zq9 Zr9 Zi9 Zow Zh9
theorem Zp9:Zke Tryz.prog 22=2:=by kernel_rfl
@[go_sem] theorem Tryz.eqn22(a:V):Zbi Tryz.prog .eql 22 a .nils=(Z34 2 a).map .bool:=(Zai _ _ Zp9 zS a).1
theorem Zyx:Zff Tryz.prog 22=some 2:=by kernel_rfl
theorem Zc4:zIX 22 2:=zix
theorem Z33:zLN 22:=zln (m:=2)
theorem Zk9(a:V)(lo hi:Option V):Zpe Tryz.prog 22 a lo hi none=slK 2 a lo hi:=Z2j Zyx a lo hi
theorem Zy9:zBS 22 2 [.str [],.int .i64 0]:=zbs (e:=94)
theorem Zmy:zAC [22,22] 2 24:=zac
theorem Znw:zLD 23 (false,1):=zld
theorem Zg9:Zbb Tryz.prog 23=some 1:=by kernel_rfl
attribute[go_sem]Zc4 Z33 Zk9 Zy9 Zmy Znw Zg9
theorem Zo9:Zke Tryz.prog 23=2:=by kernel_rfl
@[go_sem] theorem Tryz.eqn23(a:V):Zbi Tryz.prog .eql 23 a .nils=(Z34 2 a).map .bool:=(Zai _ _ Zo9 zS a).1
theorem Zxx:Zff Tryz.prog 23=some 1:=by kernel_rfl
theorem Zb4:zIX 23 1:=zix
theorem Z23:zLN 23:=zln (m:=1)
theorem Zj9(a:V)(lo hi:Option V):Zpe Tryz.prog 23 a lo hi none=slK 1 a lo hi:=Z2j Zxx a lo hi
theorem Zx9:zBS 23 1 [.str []]:=zbs (e:=9)
theorem Zly:zAC [23,23] 1 16:=zac
theorem Zmw:zLD 24 (false,1):=zld
theorem Zf9:Zbb Tryz.prog 24=some 1:=by kernel_rfl
attribute[go_sem]Zb4 Z23 Zj9 Zx9 Zly Zmw Zf9
theorem Zn9:Zke Tryz.prog 24=2:=by kernel_rfl
theorem Zi4(a:V):Zbi Tryz.prog .eql 24 a .nils=(Z34 2 a).map .bool:=(Zai _ _ Zn9 zS a).1
theorem Za4:zIX 24 2:=zix
theorem Z13:zLN 24:=zln (m:=2)
theorem Zw9:zBS 24 2 [.str [],.int .i64 0]:=zbs (e:=53)
theorem Zky:zAC [24,24] 2 24:=zac
theorem Zlw:zLD 25 (false,1):=zld
theorem Ze9:Zbb Tryz.prog 25=some 1:=by kernel_rfl
attribute[go_sem]Zi4 Za4 Z13 Zw9 Zky Zlw Ze9
theorem Zm9:Zke Tryz.prog 25=2:=by kernel_rfl
theorem Zh4(a:V):Zbi Tryz.prog .eql 25 a .nils=(Z34 2 a).map .bool:=(Zai _ _ Zm9 zS a).1
theorem Z93:zIX 25 8:=zix
theorem Z03:zLN 25:=zln (m:=8)
theorem Zv9:zBS 25 8 [.str [],.int .u8 0,.int .i64 0,.int .i64 0,.str [],.str [],.nils,.str []]:=zbs (e:=51)
theorem Zjy:zAC [25,25] 8 112:=zac
theorem Zkw:zLD 26 (false,1):=zld
theorem Zd9:Zbb Tryz.prog 26=some 1:=by kernel_rfl
attribute[go_sem]Zh4 Z93 Z03 Zv9 Zjy Zkw Zd9
theorem Zl9:Zke Tryz.prog 26=2:=by kernel_rfl
theorem Zg4(a:V):Zbi Tryz.prog .eql 26 a .nils=(Z34 2 a).map .bool:=(Zai _ _ Zl9 zS a).1
theorem Z83:zIX 26 8:=zix
theorem Zz3:zLN 26:=zln (m:=8)
theorem Zu9:zBS 26 8 [.str [],.int .i64 0,.int .i64 0,.nils,.int .i64 0,.str [],.str [],.int .u8 0]:=zbs (e:=55)
theorem Ziy:zAC [26,26] 8 104:=zac
theorem Zjw:zLD 28 (true,6):=zld
theorem Zc9:Zbb Tryz.prog 28=some 6:=by kernel_rfl
theorem Zbw:Zwc Tryz.prog 28=some [.str [],.nils,.nils,.nils,.nils,.nils]:=by kernel_rfl
theorem Zv4:zBD 28 [(0,1),(1,1),(2,1),(3,1),(4,1),(5,1)] [.str [],.nils,.nils,.nils,.nils,.nils]:=zbd
theorem Zvx:zFA 28 0 (0,false,1):=zfa
theorem Zux:zFA 28 1 (1,false,1):=zfa
theorem Ztx:zFA 28 2 (2,false,1):=zfa
theorem Zsx:zFA 28 3 (3,false,1):=zfa
theorem Zrx:zFA 28 4 (4,false,1):=zfa
theorem Zqx:zFA 28 5 (5,false,1):=zfa
theorem Ziw:zLD 32 (false,1):=zld
theorem Zb9:Zbb Tryz.prog 32=some 1:=by kernel_rfl
theorem Z73:zIX 42 2:=zix
theorem Zy3:zLN 42:=zln (m:=2)
theorem Zt9:zBS 42 2 [.int .u8 0,.int .i64 0]:=zbs (e:=47)
theorem Zhy:zAC [42,42] 2 16:=zac
theorem Zhw:zLD 47 (true,2):=zld
theorem Zu4:zBD 47 [(0,1),(1,1)] [.int .u8 0,.int .i64 0]:=zbd
theorem Zwx(x0 y0:Int)(x1 y1:Int):Zbi Tryz.prog .eql 47 (.agg [.int .u8 x0,.int .i64 x1]) (.agg [.int .u8 y0,.int .i64 y1])=some (.bool (x0==y0&&(x1==y1&&true))):=(Zhr (P:=Tryz.prog) (t:=47) (by kernel_rfl) (Zdk (Zdk Zzz .i64 x1 y1) .u8 x0 y0)).1
theorem Zcw(x0 y0:Int)(x1 y1:Int):Zbi Tryz.prog .neq 47 (.agg [.int .u8 x0,.int .i64 x1]) (.agg [.int .u8 y0,.int .i64 y1])=some (.bool (!(x0==y0&&(x1==y1&&true)))):=(Zhr (P:=Tryz.prog) (t:=47) (by kernel_rfl) (Zdk (Zdk Zzz .i64 x1 y1) .u8 x0 y0)).2
theorem Zgw:zLD 51 (true,8):=zld
theorem Za9:Zbb Tryz.prog 51=some 8:=by kernel_rfl
theorem Zaw:Zwc Tryz.prog 51=some [.str [],.int .u8 0,.int .i64 0,.int .i64 0,.str [],.str [],.nils,.str []]:=by kernel_rfl
theorem Zt4:zBD 51 [(0,1),(1,1),(2,1),(3,1),(4,1),(5,1),(6,1),(7,1)] [.str [],.int .u8 0,.int .i64 0,.int .i64 0,.str [],.str [],.nils,.str []]:=zbd
theorem Zpx:zFA 51 0 (0,false,1):=zfa
theorem Zox:zFA 51 1 (1,false,1):=zfa
theorem Znx:zFA 51 2 (2,false,1):=zfa
theorem Zmx:zFA 51 3 (3,false,1):=zfa
theorem Zlx:zFA 51 4 (4,false,1):=zfa
theorem Zkx:zFA 51 5 (5,false,1):=zfa
theorem Zjx:zFA 51 6 (6,false,1):=zfa
theorem Zix:zFA 51 7 (7,false,1):=zfa
theorem Zfw:zLD 53 (true,2):=zld
theorem Z98:Zbb Tryz.prog 53=some 2:=by kernel_rfl
theorem Z9v:Zwc Tryz.prog 53=some [.str [],.int .i64 0]:=by kernel_rfl
theorem Zs4:zBD 53 [(0,1),(1,1)] [.str [],.int .i64 0]:=zbd
theorem Zhx:zFA 53 0 (0,false,1):=zfa
theorem Zgx:zFA 53 1 (1,false,1):=zfa
theorem Zew:zLD 55 (true,8):=zld
theorem Z88:Zbb Tryz.prog 55=some 8:=by kernel_rfl
theorem Z8v:Zwc Tryz.prog 55=some [.str [],.int .i64 0,.int .i64 0,.nils,.int .i64 0,.str [],.str [],.int .u8 0]:=by kernel_rfl
theorem Zr4:zBD 55 [(0,1),(1,1),(2,1),(3,1),(4,1),(5,1),(6,1),(7,1)] [.str [],.int .i64 0,.int .i64 0,.nils,.int .i64 0,.str [],.str [],.int .u8 0]:=zbd
theorem Zfx:zFA 55 0 (0,false,1):=zfa
theorem Zex:zFA 55 1 (1,false,1):=zfa
theorem Zdx:zFA 55 2 (2,false,1):=zfa
theorem Zcx:zFA 55 3 (3,false,1):=zfa
theorem Zbx:zFA 55 4 (4,false,1):=zfa
theorem Zax:zFA 55 5 (5,false,1):=zfa
theorem Z9w:zFA 55 6 (6,false,1):=zfa
theorem Z8w:zFA 55 7 (7,false,1):=zfa
theorem Z63:zIX 66 1:=zix
theorem Zx3:zLN 66:=zln (m:=1)
theorem Zs9:zBS 66 1 [.int .i64 0]:=zbs (e:=3)
theorem Zgy:zAC [66,66] 1 8:=zac
theorem Zdw:zLD 94 (true,2):=zld
theorem Z78:Zbb Tryz.prog 94=some 2:=by kernel_rfl
theorem Z7v:Zwc Tryz.prog 94=some [.str [],.int .i64 0]:=by kernel_rfl
theorem Zq4:zBD 94 [(0,1),(1,1)] [.str [],.int .i64 0]:=zbd
theorem Z7w:zFA 94 0 (0,false,1):=zfa
theorem Zos:zLD 100 (false,1):=zld
theorem Zns:zLD 103 (true,16):=zld
theorem Zq3:Zbb Tryz.prog 103=some 16:=by kernel_rfl
theorem Z2r:Zwc Tryz.prog 103=some [.nilf,.nilf,.nilf,.nilf,.nilf,.nilf,.nilf,.nilf,.nilf,.nilf,.nilf,.nilf,.nilf,.nilf,.nilf,.nilf]:=by kernel_rfl
theorem Z53(l:List V)(ik:IntKind)(n:Int):Zwf Tryz.prog 103 (.agg l) (.int ik n)=if 0<=n/\n<(16:Nat)then Zoi false 1 l (n.toNat*1)else none:=Ztz (P:=Tryz.prog) (e:=102) (by kernel_rfl) (by kernel_rfl) (by kernel_rfl) zd l ik n
theorem Zfy(l:List (Nat×V)):Zie Tryz.prog 103 l=(Zuc (mulP 1) [.nilf,.nilf,.nilf,.nilf,.nilf,.nilf,.nilf,.nilf,.nilf,.nilf,.nilf,.nilf,.nilf,.nilf,.nilf,.nilf] l).map .agg:=Zek (P:=Tryz.prog) (N:=16) (e:=102) (by kernel_rfl) (by kernel_rfl) (by kernel_rfl) l
theorem Zms:zLD 135 (false,1):=zld
theorem Zp3:Zbb Tryz.prog 135=some 1:=by kernel_rfl
theorem Z1r:Zwc Tryz.prog 135=some [.nilf]:=by kernel_rfl
theorem Zls:zLD 136 (false,1):=zld
theorem Z6w:zIX 136 1:=zix
theorem Zvw:zLN 136:=zln (m:=1)
theorem Zp4:zBS 136 1 [.int .u8 0]:=zbs (e:=5)
theorem Z1t:zAC [136,136] 1 1:=zac
theorem Zks:zLD 140 (true,3):=zld
theorem Zo3:Zbb Tryz.prog 140=some 3:=by kernel_rfl
theorem Z0r:Zwc Tryz.prog 140=some [.int .u8 0,.int .i64 0,.int .i64 0]:=by kernel_rfl
theorem Zby:zBD 140 [(0,1),(1,1),(2,1)] [.int .u8 0,.int .i64 0,.int .i64 0]:=zbd
theorem Zut:zFA 140 0 (0,false,1):=zfa
theorem Ztt:zFA 140 1 (1,false,1):=zfa
theorem Zst:zFA 140 2 (2,false,1):=zfa
theorem Zjs:zLD 142 (false,1):=zld
theorem Zay:zBD 144 [(0,6),(6,1),(7,1)] [.str [],.nils,.nils,.nils,.nils,.nils,.nils,.nils]:=zbd
theorem Zrt:zFA 144 0 (0,true,6):=zfa
theorem Zqt:zFA 144 1 (6,false,1):=zfa
theorem Zpt:zFA 144 2 (7,false,1):=zfa
theorem Z5w:zIX 178 1:=zix
theorem Zuw:zLN 178:=zln (m:=1)
theorem Zo4:zBS 178 1 [.nilf]:=zbs (e:=142)
theorem Zis:zLD 195 (false,1):=zld
theorem Zn3:Zbb Tryz.prog 195=some 1:=by kernel_rfl
theorem Z4w:zIX 195 6:=zix
theorem Ztw:zLN 195:=zln (m:=6)
theorem Zn4:zBS 195 6 [.int .u8 0,.int .i64 0,.str [],.int .i64 0,.int .i64 0,.int .i64 0]:=zbs (e:=239)
theorem Z0t:zAC [195,195] 6 56:=zac
theorem Zhs:zLD 197 (true,1):=zld
theorem Zm3:Zbb Tryz.prog 197=some 1:=by kernel_rfl
theorem Zzr:Zwc Tryz.prog 197=some [.nils]:=by kernel_rfl
theorem Z9x:zBD 197 [(0,1)] [.nils]:=zbd
theorem Zot:zFA 197 0 (0,false,1):=zfa
theorem Zgs:zLD 200 (false,1):=zld
attribute[go_sem]Zg4 Z83 Zz3 Zu9 Ziy Zjw Zc9 Zbw Zv4 Zvx Zux Ztx Zsx Zrx Zqx Ziw Zb9 Z73 Zy3 Zt9 Zhy Zhw Zu4 Zwx Zcw Zgw Za9 Zaw Zt4 Zpx Zox Znx Zmx Zlx Zkx Zjx Zix Zfw Z98 Z9v Zs4 Zhx Zgx Zew Z88 Z8v Zr4 Zfx Zex Zdx Zcx Zbx Zax Z9w Z8w Z63 Zx3 Zs9 Zgy Zdw Z78 Z7v Zq4 Z7w Zos Zns Zq3 Z2r Z53 Zfy Zms Zp3 Z1r Zls Z6w Zvw Zp4 Z1t Zks Zo3 Z0r Zby Zut Ztt Zst Zjs Zay Zrt Zqt Zpt Z5w Zuw Zo4 Zis Zn3 Z4w Ztw Zn4 Z0t Zhs Zm3 Zzr Z9x Zot Zgs
theorem Zwt:Zff Tryz.prog 200=some 3:=by kernel_rfl
theorem Z3w:zIX 200 3:=zix
theorem Zsw:zLN 200:=zln (m:=3)
theorem Zs3(a:V)(lo hi:Option V):Zpe Tryz.prog 200 a lo hi none=slK 3 a lo hi:=Z2j Zwt a lo hi
theorem Zm4:zBS 200 3 [.int .u8 0,.str [],.int .i64 0]:=zbs (e:=237)
theorem Zzt:zAC [200,200] 3 32:=zac
theorem Zfs:zLD 237 (true,3):=zld
theorem Zl3:Zbb Tryz.prog 237=some 3:=by kernel_rfl
theorem Zyr:Zwc Tryz.prog 237=some [.int .u8 0,.str [],.int .i64 0]:=by kernel_rfl
theorem Z8x:zBD 237 [(0,1),(1,1),(2,1)] [.int .u8 0,.str [],.int .i64 0]:=zbd
theorem Znt:zFA 237 0 (0,false,1):=zfa
theorem Zmt:zFA 237 1 (1,false,1):=zfa
theorem Zlt:zFA 237 2 (2,false,1):=zfa
theorem Zes:zLD 239 (true,6):=zld
theorem Zk3:Zbb Tryz.prog 239=some 6:=by kernel_rfl
theorem Zxr:Zwc Tryz.prog 239=some [.int .u8 0,.int .i64 0,.str [],.int .i64 0,.int .i64 0,.int .i64 0]:=by kernel_rfl
theorem Z7x:zBD 239 [(0,1),(1,1),(2,1),(3,1),(4,1),(5,1)] [.int .u8 0,.int .i64 0,.str [],.int .i64 0,.int .i64 0,.int .i64 0]:=zbd
theorem Zkt:zFA 239 0 (0,false,1):=zfa
theorem Zjt:zFA 239 1 (1,false,1):=zfa
theorem Zit:zFA 239 2 (2,false,1):=zfa
theorem Zht:zFA 239 3 (3,false,1):=zfa
theorem Zgt:zFA 239 4 (4,false,1):=zfa
theorem Zft:zFA 239 5 (5,false,1):=zfa
theorem Zds:zLD 243 (false,1):=zld
theorem Zj3:Zbb Tryz.prog 243=some 1:=by kernel_rfl
theorem Z2w:zIX 243 3:=zix
theorem Zrw:zLN 243:=zln (m:=3)
theorem Zl4:zBS 243 3 [.int .u8 0,.str [],.nils]:=zbs (e:=291)
theorem Zyt:zAC [243,243] 3 48:=zac
theorem Zcs:zLD 245 (true,1):=zld
theorem Zi3:Zbb Tryz.prog 245=some 1:=by kernel_rfl
theorem Zwr:Zwc Tryz.prog 245=some [.nils]:=by kernel_rfl
theorem Z6x:zBD 245 [(0,1)] [.nils]:=zbd
theorem Zet:zFA 245 0 (0,false,1):=zfa
theorem Zf4(a:V)(ik:IntKind)(n:Int):Zab Tryz.prog 280 a (.int ik n)=idxA 14 1 false a ik n:=Zxf (P:=Tryz.prog) (e:=9) (by kernel_rfl) (by kernel_rfl) (by kernel_rfl) zd a ik n
theorem Z5x:zBD 286 [(0,1),(1,1),(2,1)] [.nils,.int .i64 0,.int .i64 0]:=zbd
theorem Zdt:zFA 286 0 (0,false,1):=zfa
theorem Zct:zFA 286 1 (1,false,1):=zfa
theorem Zbt:zFA 286 2 (2,false,1):=zfa
theorem Z4x:zBD 288 [(0,3),(3,1)] [.nils,.int .i64 0,.int .i64 0,.nils]:=zbd
theorem Zat:zFA 288 0 (0,true,3):=zfa
theorem Z9s:zFA 288 1 (3,false,1):=zfa
theorem Zbs:zLD 291 (true,3):=zld
theorem Zh3:Zbb Tryz.prog 291=some 3:=by kernel_rfl
theorem Zvr:Zwc Tryz.prog 291=some [.int .u8 0,.str [],.nils]:=by kernel_rfl
theorem Z8s:zFA 291 0 (0,false,1):=zfa
theorem Z7s:zFA 291 1 (1,false,1):=zfa
theorem Z6s:zFA 291 2 (2,true,1):=zfa
theorem Zas:zLD 307 (false,1):=zld
theorem Z3x:zBD 309 [(0,1),(1,1),(2,1),(3,1),(4,1)] [.nils,.int .i64 0,.nils,.int .i64 0,.nilf]:=zbd
theorem Z5s:zFA 309 0 (0,false,1):=zfa
theorem Z4s:zFA 309 1 (1,false,1):=zfa
theorem Z3s:zFA 309 2 (2,false,1):=zfa
theorem Z2s:zFA 309 3 (3,false,1):=zfa
theorem Z1s:zFA 309 4 (4,false,1):=zfa
theorem Z9r:zLD 313 (true,3):=zld
theorem Zg3:Zbb Tryz.prog 313=some 3:=by kernel_rfl
theorem Zur:Zwc Tryz.prog 313=some [.int .u8 0,.int .u8 0,.int .u8 0]:=by kernel_rfl
theorem Z2x:zBD 313 [(0,1),(1,1),(2,1)] [.int .u8 0,.int .u8 0,.int .u8 0]:=zbd
theorem Z0s:zFA 313 0 (0,false,1):=zfa
theorem Zzs:zFA 313 1 (1,false,1):=zfa
theorem Zys:zFA 313 2 (2,false,1):=zfa
theorem Z8r:zLD 315 (true,4):=zld
theorem Zf3:Zbb Tryz.prog 315=some 4:=by kernel_rfl
theorem Ztr:Zwc Tryz.prog 315=some [.int .u8 0,.int .u8 0,.int .u8 0,.int .u8 0]:=by kernel_rfl
theorem Z1x:zBD 315 [(0,3),(3,1)] [.int .u8 0,.int .u8 0,.int .u8 0,.int .u8 0]:=zbd
theorem Zxs:zFA 315 0 (0,true,3):=zfa
theorem Zws:zFA 315 1 (3,false,1):=zfa
theorem Z7r:zLD 316 (true,92):=zld
theorem Ze3:Zbb Tryz.prog 316=some 92:=by kernel_rfl
theorem Zsr:Zwc Tryz.prog 316=some (.int .u8 0::.int .u8 0::.int .u8 0::.int .u8 0::.int .u8 0::.int .u8 0::.int .u8 0::.int .u8 0::.int .u8 0::.int .u8 0::.int .u8 0::.int .u8 0::.int .u8 0::.int .u8 0::.int .u8 0::.int .u8 0::.int .u8 0::.int .u8 0::.int .u8 0::.int .u8 0::.int .u8 0::.int .u8 0::.int .u8 0::.int .u8 0::.int .u8 0::.int .u8 0::.int .u8 0::.int .u8 0::.int .u8 0::.int .u8 0::.int .u8 0::.int .u8 0::.int .u8 0::.int .u8 0::.int .u8 0::.int .u8 0::.int .u8 0::.int .u8 0::.int .u8 0::.int .u8 0::.int .u8 0::.int .u8 0::.int .u8 0::.int .u8 0::.int .u8 0::.int .u8 0::.int .u8 0::.int .u8 0::.int .u8 0::.int .u8 0::.int .u8 0::.int .u8 0::.int .u8 0::.int .u8 0::.int .u8 0::.int .u8 0::.int .u8 0::.int .u8 0::.int .u8 0::.int .u8 0::.int .u8 0::.int .u8 0::.int .u8 0::.int .u8 0::.int .u8 0::.int .u8 0::.int .u8 0::.int .u8 0::.int .u8 0::.int .u8 0::.int .u8 0::.int .u8 0::.int .u8 0::.int .u8 0::.int .u8 0::.int .u8 0::.int .u8 0::.int .u8 0::.int .u8 0::.int .u8 0::.int .u8 0::.int .u8 0::.int .u8 0::.int .u8 0::.int .u8 0::.int .u8 0::.int .u8 0::.int .u8 0::.int .u8 0::.int .u8 0::.int .u8 0::.int .u8 0::[]):=by kernel_rfl
theorem Ze4(a:V)(ik:IntKind)(n:Int):Zab Tryz.prog 316 a (.int ik n)=idxA 23 4 true a ik n:=Zxf (P:=Tryz.prog) (e:=315) (by kernel_rfl) (by kernel_rfl) (by kernel_rfl) zd a ik n
theorem Zey(l:List (Nat×V)):Zie Tryz.prog 316 l=(Zuc (mulP 4) (.int .u8 0::.int .u8 0::.int .u8 0::.int .u8 0::.int .u8 0::.int .u8 0::.int .u8 0::.int .u8 0::.int .u8 0::.int .u8 0::.int .u8 0::.int .u8 0::.int .u8 0::.int .u8 0::.int .u8 0::.int .u8 0::.int .u8 0::.int .u8 0::.int .u8 0::.int .u8 0::.int .u8 0::.int .u8 0::.int .u8 0::.int .u8 0::.int .u8 0::.int .u8 0::.int .u8 0::.int .u8 0::.int .u8 0::.int .u8 0::.int .u8 0::.int .u8 0::.int .u8 0::.int .u8 0::.int .u8 0::.int .u8 0::.int .u8 0::.int .u8 0::.int .u8 0::.int .u8 0::.int .u8 0::.int .u8 0::.int .u8 0::.int .u8 0::.int .u8 0::.int .u8 0::.int .u8 0::.int .u8 0::.int .u8 0::.int .u8 0::.int .u8 0::.int .u8 0::.int .u8 0::.int .u8 0::.int .u8 0::.int .u8 0::.int .u8 0::.int .u8 0::.int .u8 0::.int .u8 0::.int .u8 0::.int .u8 0::.int .u8 0::.int .u8 0::.int .u8 0::.int .u8 0::.int .u8 0::.int .u8 0::.int .u8 0::.int .u8 0::.int .u8 0::.int .u8 0::.int .u8 0::.int .u8 0::.int .u8 0::.int .u8 0::.int .u8 0::.int .u8 0::.int .u8 0::.int .u8 0::.int .u8 0::.int .u8 0::.int .u8 0::.int .u8 0::.int .u8 0::.int .u8 0::.int .u8 0::.int .u8 0::.int .u8 0::.int .u8 0::.int .u8 0::.int .u8 0::[]) l).map .agg:=Zek (P:=Tryz.prog) (N:=23) (e:=315) (by kernel_rfl) (by kernel_rfl) (by kernel_rfl) l
theorem Z6r:zLD 319 (true,93):=zld
theorem Zd3:Zbb Tryz.prog 319=some 93:=by kernel_rfl
theorem Zvs:zFA 319 0 (0,true,92):=zfa
theorem Zus:zFA 319 1 (92,false,1):=zfa
theorem Z5r:zLD 335 (true,3):=zld
theorem Z0x:zBD 335 [(0,1),(1,1),(2,1)] [.str [],.int .i64 0,.int .i64 0]:=zbd
theorem Zts:zFA 335 0 (0,false,1):=zfa
theorem Zss:zFA 335 1 (1,false,1):=zfa
theorem Zrs:zFA 335 2 (2,false,1):=zfa
theorem Z4r:zLD 336 (true,69):=zld
theorem Zc3:Zbb Tryz.prog 336=some 69:=by kernel_rfl
theorem Zrr:Zwc Tryz.prog 336=some (.str []::.int .i64 0::.int .i64 0::.str []::.int .i64 0::.int .i64 0::.str []::.int .i64 0::.int .i64 0::.str []::.int .i64 0::.int .i64 0::.str []::.int .i64 0::.int .i64 0::.str []::.int .i64 0::.int .i64 0::.str []::.int .i64 0::.int .i64 0::.str []::.int .i64 0::.int .i64 0::.str []::.int .i64 0::.int .i64 0::.str []::.int .i64 0::.int .i64 0::.str []::.int .i64 0::.int .i64 0::.str []::.int .i64 0::.int .i64 0::.str []::.int .i64 0::.int .i64 0::.str []::.int .i64 0::.int .i64 0::.str []::.int .i64 0::.int .i64 0::.str []::.int .i64 0::.int .i64 0::.str []::.int .i64 0::.int .i64 0::.str []::.int .i64 0::.int .i64 0::.str []::.int .i64 0::.int .i64 0::.str []::.int .i64 0::.int .i64 0::.str []::.int .i64 0::.int .i64 0::.str []::.int .i64 0::.int .i64 0::.str []::.int .i64 0::.int .i64 0::[]):=by kernel_rfl
theorem Zd4(a:V)(ik:IntKind)(n:Int):Zab Tryz.prog 336 a (.int ik n)=idxA 23 3 true a ik n:=Zxf (P:=Tryz.prog) (e:=335) (by kernel_rfl) (by kernel_rfl) (by kernel_rfl) zd a ik n
theorem Zdy(l:List (Nat×V)):Zie Tryz.prog 336 l=(Zuc (mulP 3) (.str []::.int .i64 0::.int .i64 0::.str []::.int .i64 0::.int .i64 0::.str []::.int .i64 0::.int .i64 0::.str []::.int .i64 0::.int .i64 0::.str []::.int .i64 0::.int .i64 0::.str []::.int .i64 0::.int .i64 0::.str []::.int .i64 0::.int .i64 0::.str []::.int .i64 0::.int .i64 0::.str []::.int .i64 0::.int .i64 0::.str []::.int .i64 0::.int .i64 0::.str []::.int .i64 0::.int .i64 0::.str []::.int .i64 0::.int .i64 0::.str []::.int .i64 0::.int .i64 0::.str []::.int .i64 0::.int .i64 0::.str []::.int .i64 0::.int .i64 0::.str []::.int .i64 0::.int .i64 0::.str []::.int .i64 0::.int .i64 0::.str []::.int .i64 0::.int .i64 0::.str []::.int .i64 0::.int .i64 0::.str []::.int .i64 0::.int .i64 0::.str []::.int .i64 0::.int .i64 0::.str []::.int .i64 0::.int .i64 0::.str []::.int .i64 0::.int .i64 0::[]) l).map .agg:=Zek (P:=Tryz.prog) (N:=23) (e:=335) (by kernel_rfl) (by kernel_rfl) (by kernel_rfl) l
attribute[go_sem]Z3w Zsw Zs3 Zm4 Zzt Zfs Zl3 Zyr Z8x Znt Zmt Zlt Zes Zk3 Zxr Z7x Zkt Zjt Zit Zht Zgt Zft Zds Zj3 Z2w Zrw Zl4 Zyt Zcs Zi3 Zwr Z6x Zet Zf4 Z5x Zdt Zct Zbt Z4x Zat Z9s Zbs Zh3 Zvr Z8s Z7s Z6s Zas Z3x Z5s Z4s Z3s Z2s Z1s Z9r Zg3 Zur Z2x Z0s Zzs Zys Z8r Zf3 Ztr Z1x Zxs Zws Z7r Ze3 Zsr Ze4 Zey Z6r Zd3 Zvs Zus Z5r Z0x Zts Zss Zrs Z4r Zc3 Zrr Zd4 Zdy
theorem Zvt:Zff Tryz.prog 343=some 2:=by kernel_rfl
theorem Z1w:zIX 343 2:=zix
theorem Zqw:zLN 343:=zln (m:=2)
theorem Zr3(a:V)(lo hi:Option V):Zpe Tryz.prog 343 a lo hi none=slK 2 a lo hi:=Z2j Zvt a lo hi
theorem Zk4:zBS 343 2 [.int .i64 0,.int .i64 0]:=zbs (e:=346)
theorem Zxt:zAC [343,343] 2 16:=zac
theorem Z3r:zLD 346 (true,2):=zld
theorem Zb3:Zbb Tryz.prog 346=some 2:=by kernel_rfl
theorem Zqr:Zwc Tryz.prog 346=some [.int .i64 0,.int .i64 0]:=by kernel_rfl
theorem Zzx:zBD 346 [(0,1),(1,1)] [.int .i64 0,.int .i64 0]:=zbd
theorem Zqs:zFA 346 0 (0,false,1):=zfa
theorem Zps:zFA 346 1 (1,false,1):=zfa
theorem Z0w:zIX 359 3:=zix
theorem Zpw:zLN 359:=zln (m:=3)
theorem Z43(l:List V)(ik:IntKind)(n:Int):Zwf Tryz.prog 370 (.agg l) (.int ik n)=if 0<=n/\n<(3:Nat)then Zoi false 1 l (n.toNat*1)else none:=Ztz (P:=Tryz.prog) (e:=9) (by kernel_rfl) (by kernel_rfl) (by kernel_rfl) zd l ik n
theorem Zcy(l:List (Nat×V)):Zie Tryz.prog 370 l=(Zuc (mulP 1) [.str [],.str [],.str []] l).map .agg:=Zek (P:=Tryz.prog) (N:=3) (e:=9) (by kernel_rfl) (by kernel_rfl) (by kernel_rfl) l
theorem Zj4(k:IntKind)(n:Int):Zov Tryz.prog 3 5 (.int k n)=some (.int .u8 (IntKind.wrap .u8 n)):=Znca (P:=Tryz.prog) (s:=3) (d:=5) (by kernel_rfl) (by kernel_rfl) k n
attribute[go_sem]Z1w Zqw Zr3 Zk4 Zxt Z3r Zb3 Zqr Zzx Zqs Zps Z0w Zpw Z43 Zcy Zj4
end Go.Hs
