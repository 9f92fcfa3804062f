/- A part. No condition. -/
import Derived.Test.YtoahejkahaimnaaGreatDoorP17
import Derived.Test.YtoahejkahaimnaaGreatDoorProg
import Derived.KernelRfl
set_option linter.all false
namespace Go.Hs
open Go.Proofs
abbrev zFA(t n:Nat)(x:Nat×Bool×Nat):Prop:=∀ a,Z2d Tryz.prog t a n=fldK (some x) a
theorem zfa{t n:Nat}{x:Nat×Bool×Nat}(h:fldOf Tryz.prog t n=some x:=by kernel_rfl):zFA t n x:=λa=>Ztv h a
abbrev zLD(t:Nat)(x:Bool×Nat):Prop:=∀ (H:Heap) (a:V),Zvb Tryz.prog H t a=Zng (some x) (obOf H a) a
theorem zld{t n:Nat}{b:Bool}(h:Zsz Tryz.prog t=some (b,n):=by kernel_rfl):zLD t (b,n):=λH a=>readV_K h H a
abbrev zIX(t m:Nat):Prop:=∀ a i:V,Zyb Tryz.prog t a i=idxK (some m) a i
theorem zix{t m:Nat}(h:Zqf Tryz.prog t=some m:=by kernel_rfl):zIX t m:=λa i=>Zbv h a i
abbrev zLN(t:Nat):Prop:=∀ a:V,lenV Tryz.prog t a=Zz9 true a
theorem zln{t m:Nat}(h:Zqf Tryz.prog t=some m:=by kernel_rfl):zLN t:=λa=>Zw9 h a
abbrev zAC(l:List Nat)(m b:Nat):Prop:=∀ (E:Ent) (ops:Array Oper) (Q:AS->Prop) (rest:List Oper) (e:Nat) (τ : Nat->V) (H:Heap) (x y:V),appC Tryz.prog E ops Q rest e τ H l x y=appE Tryz.prog E ops Q rest e τ H m b x (Zbd H m y) (obS H x)
theorem zac{l:List Nat}{m b:Nat}(h:appOf Tryz.prog l=some (m,b):=by kernel_rfl):zAC l m b:=λE ops Q rest e τ H x y=>appC_E ops h e x y
abbrev zBD(t:Nat)(T:List (Nat×Nat))(Z:List V):Prop:=∀ l:List (Nat×V),Zff Tryz.prog t l=(Zsd (tblP T) Z l).map .agg
theorem zbd{t:Nat}{T:List (Nat×Nat)}{Z:List V}(h:tblOf Tryz.prog t=some T:=by kernel_rfl)(h2:Zre Tryz.prog t=some (.agg Z):=by kernel_rfl):zBD t T Z:=λl=>Z56 h h2 l
abbrev zBS(t m:Nat)(Z:List V):Prop:=∀ (n:Nat) (l:List (Nat×V)),Z5o Tryz.prog t n l=bsK m Z n l
theorem zbs{t m e:Nat}{Z:List V}(h:Tryz.prog.underlying t=some (.slice e):=by kernel_rfl)(h2:Z9a Tryz.prog e=some m:=by kernel_rfl)(h3:Zac Tryz.prog e=some Z:=by kernel_rfl)(h4:Z.length=m:=by rfl):zBS t m Z:=λn l=>Zcia h h2 h3 h4 n l
theorem Z1ba:zLD 2 (false,1):=zld
theorem Z0ba:zLD 3 (false,1):=zld
theorem Z4na:Z9a Tryz.prog 3=some 1:=by kernel_rfl
theorem Zaba:Zac Tryz.prog 3=some [.int .i64 0]:=by kernel_rfl
theorem Zzba:zLD 4 (false,1):=zld
theorem Z3na:Z9a Tryz.prog 4=some 1:=by kernel_rfl
theorem Z9aa:Zac Tryz.prog 4=some [.bool false]:=by kernel_rfl
theorem Zyba:zLD 5 (false,1):=zld
theorem Z2na:Z9a Tryz.prog 5=some 1:=by kernel_rfl
theorem Zxba:zLD 9 (false,1):=zld
theorem Z1na:Z9a Tryz.prog 9=some 1:=by kernel_rfl
attribute[go_sem]Z1ba Z0ba Z4na Zaba Zzba Z3na Z9aa Zyba Z2na Zxba Z1na
theorem Zep:Zm0 Tryz.prog 9=true:=by kernel_rfl
theorem Zjja(a:V):lenV Tryz.prog 9 a=Zz9 false a:=Zima Zep a
theorem Zkja(s:List UInt8)(k:IntKind)(n:Int):Zih Tryz.prog 9 (.str s) (.int k n)=if 0<=n then(s[n.toNat]?).map λb=>.int .u8 b.toNat else none:=Z59 Zep s k n
theorem Z9ia(s:List UInt8)(lo hi:Option V):Zge Tryz.prog 9 (.str s) lo hi none=slJ (Zga 0 lo) (Zga s.length hi) λi j=>if i<=j/\j<=s.length then some (.str ((s.drop i).take (j-i)))else none:=Zb8 Zep s lo hi
theorem Zd2:zLD 22 (false,1):=zld
attribute[go_sem]Zjja Zkja Z9ia Zd2
theorem Z83:Zqf Tryz.prog 22=some 2:=by kernel_rfl
theorem Zqca:zIX 22 2:=zix
theorem Zdca:zLN 22:=zln (m:=2)
theorem Zdja(a:V)(lo hi:Option V):Zge Tryz.prog 22 a lo hi none=slK 2 a lo hi:=Z3h Z83 a lo hi
theorem Zc2:zLD 23 (false,1):=zld
theorem Z8ia:Z9a Tryz.prog 23=some 1:=by kernel_rfl
attribute[go_sem]Zqca Zdca Zdja Zc2 Z8ia
theorem Zgja:Zlg Tryz.prog 23=2:=by kernel_rfl
@[go_sem] theorem Tryz.eqn23(a:V):Zvm Tryz.prog .eql 23 a .nils=(Zd9 2 a).map .bool:=(Zlk _ _ Zgja zS a).1
theorem Z73:Zqf Tryz.prog 23=some 1:=by kernel_rfl
theorem Zpca:zIX 23 1:=zix
theorem Zcca:zLN 23:=zln (m:=1)
theorem Zcja(a:V)(lo hi:Option V):Zge Tryz.prog 23 a lo hi none=slK 1 a lo hi:=Z3h Z73 a lo hi
theorem Zuja:zBS 23 1 [.str []]:=zbs (e:=9)
theorem Zy4:zAC [23,23] 1 16:=zac
theorem Zb2:zLD 24 (false,1):=zld
theorem Zoca:zIX 24 2:=zix
theorem Zbca:zLN 24:=zln (m:=2)
theorem Ztja:zBS 24 2 [.str [],.int .i64 0]:=zbs (e:=79)
theorem Za2:zLD 25 (false,1):=zld
theorem Z7ia:Z9a Tryz.prog 25=some 1:=by kernel_rfl
theorem Znca:zIX 25 8:=zix
theorem Zaca:zLN 25:=zln (m:=8)
theorem Zsja:zBS 25 8 [.str [],.int .u8 0,.int .i64 0,.int .i64 0,.str [],.str [],.nils,.str []]:=zbs (e:=60)
theorem Zx4:zAC [25,25] 8 112:=zac
theorem Z91:zLD 26 (false,1):=zld
theorem Z6ia:Z9a Tryz.prog 26=some 1:=by kernel_rfl
theorem Zmca:zIX 26 8:=zix
theorem Z9ba:zLN 26:=zln (m:=8)
theorem Zrja:zBS 26 8 [.str [],.int .i64 0,.int .i64 0,.nils,.int .i64 0,.str [],.str [],.int .u8 0]:=zbs (e:=62)
theorem Zw4:zAC [26,26] 8 104:=zac
theorem Z81:zLD 28 (true,6):=zld
theorem Z5ia:Z9a Tryz.prog 28=some 6:=by kernel_rfl
theorem Zs1:Zac Tryz.prog 28=some [.str [],.nils,.nils,.nils,.nils,.nils]:=by kernel_rfl
theorem Z9ca:zBD 28 [(0,1),(1,1),(2,1),(3,1),(4,1),(5,1)] [.str [],.nils,.nils,.nils,.nils,.nils]:=zbd
theorem Z43:zFA 28 0 (0,false,1):=zfa
theorem Z33:zFA 28 1 (1,false,1):=zfa
theorem Z23:zFA 28 2 (2,false,1):=zfa
theorem Z13:zFA 28 3 (3,false,1):=zfa
theorem Z03:zFA 28 4 (4,false,1):=zfa
theorem Zz3:zFA 28 5 (5,false,1):=zfa
theorem Z71:zLD 32 (false,1):=zld
theorem Z4ia:Z9a Tryz.prog 32=some 1:=by kernel_rfl
theorem Zr1:Zac Tryz.prog 32=some [.int .i64 0]:=by kernel_rfl
theorem Z61:zLD 42 (false,1):=zld
theorem Z3ia:Z9a Tryz.prog 42=some 1:=by kernel_rfl
theorem Zq1:Zac Tryz.prog 42=some [.nils]:=by kernel_rfl
theorem Zlca:zIX 42 6:=zix
theorem Z8ba:zLN 42:=zln (m:=6)
theorem Zqja:zBS 42 6 [.nils,.int .i64 0,.nils,.nils,.nils,.nils]:=zbs (e:=49)
theorem Zv4:zAC [42,42] 6 128:=zac
theorem Z51:zLD 45 (false,1):=zld
theorem Z2ia:Z9a Tryz.prog 45=some 1:=by kernel_rfl
theorem Zp1:Zac Tryz.prog 45=some [.nils]:=by kernel_rfl
attribute[go_sem]Zpca Zcca Zcja Zuja Zy4 Zb2 Zoca Zbca Ztja Za2 Z7ia Znca Zaca Zsja Zx4 Z91 Z6ia Zmca Z9ba Zrja Zw4 Z81 Z5ia Zs1 Z9ca Z43 Z33 Z23 Z13 Z03 Zz3 Z71 Z4ia Zr1 Z61 Z3ia Zq1 Zlca Z8ba Zqja Zv4 Z51 Z2ia Zp1
theorem Zow:Zlg Tryz.prog 45=2:=by kernel_rfl
@[go_sem] theorem Tryz.eqn45(a:V):Zvm Tryz.prog .eql 45 a .nils=(Zd9 2 a).map .bool:=(Zlk _ _ Zow zS a).1
@[go_sem] theorem Tryz.nen45(a:V):Zvm Tryz.prog .neq 45 a .nils=(Zd9 2 a).map λr=>.bool (!r):=(Zlk _ _ Zow zS a).2
theorem Z63:Zqf Tryz.prog 45=some 1:=by kernel_rfl
theorem Zkca:zIX 45 1:=zix
theorem Z7ba:zLN 45:=zln (m:=1)
theorem Zbja(a:V)(lo hi:Option V):Zge Tryz.prog 45 a lo hi none=slK 1 a lo hi:=Z3h Z63 a lo hi
theorem Zpja:zBS 45 1 [.int .i64 0]:=zbs (e:=3)
theorem Zu4:zAC [45,45] 1 8:=zac
theorem Z41:zLD 47 (false,1):=zld
theorem Z1ia:Z9a Tryz.prog 47=some 1:=by kernel_rfl
attribute[go_sem]Zkca Z7ba Zbja Zpja Zu4 Z41 Z1ia
theorem Zfja:Zlg Tryz.prog 47=2:=by kernel_rfl
@[go_sem] theorem Tryz.eqn47(a:V):Zvm Tryz.prog .eql 47 a .nils=(Zd9 2 a).map .bool:=(Zlk _ _ Zfja zS a).1
theorem Z53:Zqf Tryz.prog 47=some 2:=by kernel_rfl
theorem Zjca:zIX 47 2:=zix
theorem Z6ba:zLN 47:=zln (m:=2)
theorem Zaja(a:V)(lo hi:Option V):Zge Tryz.prog 47 a lo hi none=slK 2 a lo hi:=Z3h Z53 a lo hi
theorem Zoja:zBS 47 2 [.int .i64 0,.nils]:=zbs (e:=64)
theorem Zt4:zAC [47,47] 2 32:=zac
theorem Z31:zLD 49 (true,6):=zld
theorem Z0ia:Z9a Tryz.prog 49=some 6:=by kernel_rfl
theorem Zo1:Zac Tryz.prog 49=some [.nils,.int .i64 0,.nils,.nils,.nils,.nils]:=by kernel_rfl
theorem Z8ca:zBD 49 [(0,1),(1,1),(2,1),(3,1),(4,1),(5,1)] [.nils,.int .i64 0,.nils,.nils,.nils,.nils]:=zbd
theorem Zy3:zFA 49 0 (0,false,1):=zfa
theorem Zx3:zFA 49 1 (1,false,1):=zfa
theorem Zw3:zFA 49 2 (2,false,1):=zfa
theorem Zv3:zFA 49 3 (3,false,1):=zfa
theorem Zu3:zFA 49 4 (4,false,1):=zfa
theorem Zt3:zFA 49 5 (5,false,1):=zfa
theorem Z21:zLD 50 (false,1):=zld
theorem Zica:zIX 50 2:=zix
theorem Z5ba:zLN 50:=zln (m:=2)
theorem Znja:zBS 50 2 [.int .i64 0,.nils]:=zbs (e:=66)
theorem Z7ca:zBD 52 [(0,1),(1,1),(2,1),(3,1),(4,1),(5,1),(6,1)] [.nils,.int .i64 0,.nils,.nils,.nils,.nils,.bool false]:=zbd
theorem Zs3:zFA 52 0 (0,false,1):=zfa
theorem Zr3:zFA 52 1 (1,false,1):=zfa
theorem Zq3:zFA 52 2 (2,false,1):=zfa
theorem Zp3:zFA 52 3 (3,false,1):=zfa
theorem Zo3:zFA 52 4 (4,false,1):=zfa
theorem Zn3:zFA 52 5 (5,false,1):=zfa
theorem Zhca:zIX 57 1:=zix
theorem Z4ba:zLN 57:=zln (m:=1)
theorem Zija(a b:V):Zvi Tryz.prog 57 a b=msK 1 1 [.bool false] a b:=Zao (P:=Tryz.prog) (t:=57) (e:=4) (E:=1) (bytes:=1) (z:=[.bool false]) (by kernel_rfl) (by kernel_rfl) (by kernel_rfl) (by kernel_rfl) rfl a b
theorem Z11:zLD 60 (true,8):=zld
theorem Zzia:Z9a Tryz.prog 60=some 8:=by kernel_rfl
theorem Zn1:Zac Tryz.prog 60=some [.str [],.int .u8 0,.int .i64 0,.int .i64 0,.str [],.str [],.nils,.str []]:=by kernel_rfl
theorem Z6ca:zBD 60 [(0,1),(1,1),(2,1),(3,1),(4,1),(5,1),(6,1),(7,1)] [.str [],.int .u8 0,.int .i64 0,.int .i64 0,.str [],.str [],.nils,.str []]:=zbd
theorem Zm3:zFA 60 0 (0,false,1):=zfa
theorem Zl3:zFA 60 1 (1,false,1):=zfa
theorem Zk3:zFA 60 2 (2,false,1):=zfa
theorem Zj3:zFA 60 3 (3,false,1):=zfa
theorem Zi3:zFA 60 4 (4,false,1):=zfa
theorem Zh3:zFA 60 5 (5,false,1):=zfa
theorem Zg3:zFA 60 6 (6,false,1):=zfa
theorem Zf3:zFA 60 7 (7,false,1):=zfa
theorem Z01:zLD 62 (true,8):=zld
theorem Zyia:Z9a Tryz.prog 62=some 8:=by kernel_rfl
theorem Zm1:Zac Tryz.prog 62=some [.str [],.int .i64 0,.int .i64 0,.nils,.int .i64 0,.str [],.str [],.int .u8 0]:=by kernel_rfl
theorem Z5ca:zBD 62 [(0,1),(1,1),(2,1),(3,1),(4,1),(5,1),(6,1),(7,1)] [.str [],.int .i64 0,.int .i64 0,.nils,.int .i64 0,.str [],.str [],.int .u8 0]:=zbd
theorem Ze3:zFA 62 0 (0,false,1):=zfa
theorem Zd3:zFA 62 1 (1,false,1):=zfa
theorem Zc3:zFA 62 2 (2,false,1):=zfa
theorem Zb3:zFA 62 3 (3,false,1):=zfa
theorem Za3:zFA 62 4 (4,false,1):=zfa
theorem Z92:zFA 62 5 (5,false,1):=zfa
theorem Z82:zFA 62 6 (6,false,1):=zfa
theorem Z72:zFA 62 7 (7,false,1):=zfa
theorem Zz1:zLD 64 (true,2):=zld
theorem Zxia:Z9a Tryz.prog 64=some 2:=by kernel_rfl
theorem Zl1:Zac Tryz.prog 64=some [.int .i64 0,.nils]:=by kernel_rfl
theorem Z4ca:zBD 64 [(0,1),(1,1)] [.int .i64 0,.nils]:=zbd
theorem Z62:zFA 64 0 (0,false,1):=zfa
theorem Z52:zFA 64 1 (1,false,1):=zfa
theorem Z3ca:zBD 66 [(0,1),(1,1)] [.int .i64 0,.nils]:=zbd
theorem Z42:zFA 66 0 (0,false,1):=zfa
theorem Z32:zFA 66 1 (1,false,1):=zfa
theorem Zy1:zLD 76 (true,2):=zld
theorem Zwia:Z9a Tryz.prog 76=some 2:=by kernel_rfl
theorem Zk1:Zac Tryz.prog 76=some [.str [],.int .i64 0]:=by kernel_rfl
theorem Z22:zFA 76 0 (0,false,1):=zfa
theorem Zx1:zLD 79 (true,2):=zld
theorem Zvia:Z9a Tryz.prog 79=some 2:=by kernel_rfl
theorem Zj1:Zac Tryz.prog 79=some [.str [],.int .i64 0]:=by kernel_rfl
theorem Z2ca:zBD 79 [(0,1),(1,1)] [.str [],.int .i64 0]:=zbd
theorem Z12:zFA 79 0 (0,false,1):=zfa
theorem Z02:zFA 79 1 (1,false,1):=zfa
theorem Z3ba:zLN 83:=zln (m:=2)
theorem Zmja:zBS 83 2 [.int .u8 0,.int .i64 0]:=zbs (e:=125)
theorem Zs4:zAC [83,83] 2 16:=zac
theorem Zw1:zLD 86 (false,1):=zld
theorem Zuia:Z9a Tryz.prog 86=some 1:=by kernel_rfl
theorem Zi1:Zac Tryz.prog 86=some [.nilp]:=by kernel_rfl
attribute[go_sem]Zjca Z6ba Zaja Zoja Zt4 Z31 Z0ia Zo1 Z8ca Zy3 Zx3 Zw3 Zv3 Zu3 Zt3 Z21 Zica Z5ba Znja Z7ca Zs3 Zr3 Zq3 Zp3 Zo3 Zn3 Zhca Z4ba Zija Z11 Zzia Zn1 Z6ca Zm3 Zl3 Zk3 Zj3 Zi3 Zh3 Zg3 Zf3 Z01 Zyia Zm1 Z5ca Ze3 Zd3 Zc3 Zb3 Za3 Z92 Z82 Z72 Zz1 Zxia Zl1 Z4ca Z62 Z52 Z3ca Z42 Z32 Zy1 Zwia Zk1 Z22 Zx1 Zvia Zj1 Z2ca Z12 Z02 Z3ba Zmja Zs4 Zw1 Zuia Zi1
theorem Zeja:Zlg Tryz.prog 86=1:=by kernel_rfl
theorem Zvba(a:V):Zvm Tryz.prog .neq 86 a .nilp=(Zd9 1 a).map λr=>.bool (!r):=(Zlk _ _ Zeja zS a).2
theorem Zv1:zLD 89 (false,1):=zld
theorem Ztia:Z9a Tryz.prog 89=some 1:=by kernel_rfl
theorem Zh1:Zac Tryz.prog 89=some [.nilp]:=by kernel_rfl
theorem Z1ca:zBD 91 [(0,6),(6,1)] [.str [],.nils,.nils,.nils,.nils,.nils,.nilp]:=zbd
theorem Zz2:zFA 91 0 (0,true,6):=zfa
theorem Zy2:zFA 91 1 (6,false,1):=zfa
theorem Zu1:zLD 97 (false,1):=zld
theorem Zt1:zLD 99 (false,1):=zld
theorem Zgca:zIX 99 1:=zix
theorem Z2ba:zLN 99:=zln (m:=1)
theorem Zlja:zBS 99 1 [.nils]:=zbs (e:=45)
theorem Zhja(a b:V):Zvi Tryz.prog 99 a b=msK 1 24 [.nils] a b:=Zao (P:=Tryz.prog) (t:=99) (e:=45) (E:=1) (bytes:=24) (z:=[.nils]) (by kernel_rfl) (by kernel_rfl) (by kernel_rfl) (by kernel_rfl) rfl a b
theorem Zex:zLD 120 (false,1):=zld
theorem Zdx:zLD 123 (true,16):=zld
theorem Zsba:Z9a Tryz.prog 123=some 16:=by kernel_rfl
theorem Znw:Zac Tryz.prog 123=some [.nilf,.nilf,.nilf,.nilf,.nilf,.nilf,.nilf,.nilf,.nilf,.nilf,.nilf,.nilf,.nilf,.nilf,.nilf,.nilf]:=by kernel_rfl
theorem Zfca(l:List V)(ik:IntKind)(n:Int):Zih Tryz.prog 123 (.agg l) (.int ik n)=if 0<=n/\n<(16:Nat)then Z2k false 1 l (n.toNat*1)else none:=Zj6 (P:=Tryz.prog) (e:=122) (by kernel_rfl) (by kernel_rfl) (by kernel_rfl) zd l ik n
theorem Zr4(l:List (Nat×V)):Zff Tryz.prog 123 l=(Zsd (mulP 1) [.nilf,.nilf,.nilf,.nilf,.nilf,.nilf,.nilf,.nilf,.nilf,.nilf,.nilf,.nilf,.nilf,.nilf,.nilf,.nilf] l).map .agg:=Zum (P:=Tryz.prog) (N:=16) (e:=122) (by kernel_rfl) (by kernel_rfl) (by kernel_rfl) l
theorem Zn4:zBD 125 [(0,1),(1,1)] [.int .u8 0,.int .i64 0]:=zbd
theorem Zcx:zLD 126 (false,1):=zld
theorem Zx2:zIX 126 7:=zix
theorem Zl2:zLN 126:=zln (m:=7)
theorem Zwba(a b:V):Zvi Tryz.prog 126 a b=msK 7 80 [.int .i64 0,.int .i64 0,.int .i64 0,.bool false,.bool false,.nils,.nils] a b:=Zao (P:=Tryz.prog) (t:=126) (e:=132) (E:=7) (bytes:=80) (z:=[.int .i64 0,.int .i64 0,.int .i64 0,.bool false,.bool false,.nils,.nils]) (by kernel_rfl) (by kernel_rfl) (by kernel_rfl) (by kernel_rfl) rfl a b
theorem Zbx:zLD 127 (false,1):=zld
theorem Zm4:zBD 129 [(0,1),(1,1),(2,1),(3,1)] [.nils,.nils,.nilm,.nilm]:=zbd
theorem Zvy:zFA 129 0 (0,false,1):=zfa
theorem Zuy:zFA 129 1 (1,false,1):=zfa
theorem Zty:zFA 129 2 (2,false,1):=zfa
theorem Zsy:zFA 129 3 (3,false,1):=zfa
theorem Zry:zFA 132 0 (0,false,1):=zfa
theorem Zqy:zFA 132 1 (1,false,1):=zfa
theorem Zpy:zFA 132 2 (2,false,1):=zfa
theorem Zoy:zFA 132 3 (3,false,1):=zfa
theorem Zny:zFA 132 4 (4,false,1):=zfa
theorem Zmy:zFA 132 5 (5,false,1):=zfa
theorem Zly:zFA 132 6 (6,false,1):=zfa
theorem Zax:zLD 138 (false,1):=zld
theorem Zrba:Z9a Tryz.prog 138=some 1:=by kernel_rfl
theorem Zmw:Zac Tryz.prog 138=some [.nilm]:=by kernel_rfl
theorem Zqba:Z9a Tryz.prog 139=some 0:=by kernel_rfl
theorem Zlw:Zac Tryz.prog 139=some []:=by kernel_rfl
theorem Z9w:zLD 144 (false,1):=zld
theorem Zpba:Z9a Tryz.prog 144=some 1:=by kernel_rfl
theorem Zkw:Zac Tryz.prog 144=some [.nilf]:=by kernel_rfl
theorem Z8w:zLD 146 (false,1):=zld
theorem Zw2:zIX 146 1:=zix
theorem Zk2:zLN 146:=zln (m:=1)
theorem Z0ca:zBS 146 1 [.int .u8 0]:=zbs (e:=5)
theorem Z2y:zAC [146,146] 1 1:=zac
theorem Z7w:zLD 154 (true,3):=zld
theorem Zoba:Z9a Tryz.prog 154=some 3:=by kernel_rfl
theorem Zjw:Zac Tryz.prog 154=some [.int .u8 0,.int .i64 0,.int .i64 0]:=by kernel_rfl
theorem Zl4:zBD 154 [(0,1),(1,1),(2,1)] [.int .u8 0,.int .i64 0,.int .i64 0]:=zbd
theorem Zky:zFA 154 0 (0,false,1):=zfa
theorem Zjy:zFA 154 1 (1,false,1):=zfa
theorem Ziy:zFA 154 2 (2,false,1):=zfa
theorem Z6w:zLD 156 (false,1):=zld
theorem Zk4:zBD 158 [(0,6),(6,1),(7,1)] [.str [],.nils,.nils,.nils,.nils,.nils,.nils,.nils]:=zbd
theorem Zhy:zFA 158 0 (0,true,6):=zfa
theorem Zgy:zFA 158 1 (6,false,1):=zfa
theorem Zfy:zFA 158 2 (7,false,1):=zfa
theorem Z5w:zLD 167 (false,1):=zld
theorem Zv2:zIX 181 1:=zix
theorem Zj2:zLN 181:=zln (m:=1)
theorem Zzca:zBS 181 1 [.nilf]:=zbs (e:=156)
theorem Z4w:zLD 197 (false,1):=zld
theorem Znba:Z9a Tryz.prog 197=some 1:=by kernel_rfl
theorem Zu2:zIX 197 6:=zix
theorem Zi2:zLN 197:=zln (m:=6)
theorem Zyca:zBS 197 6 [.int .u8 0,.int .i64 0,.str [],.int .i64 0,.int .i64 0,.int .i64 0]:=zbs (e:=240)
theorem Z1y:zAC [197,197] 6 56:=zac
theorem Z3w:zLD 199 (true,1):=zld
theorem Zmba:Z9a Tryz.prog 199=some 1:=by kernel_rfl
theorem Ziw:Zac Tryz.prog 199=some [.nils]:=by kernel_rfl
theorem Zj4:zBD 199 [(0,1)] [.nils]:=zbd
theorem Zey:zFA 199 0 (0,false,1):=zfa
theorem Z2w:zLD 202 (false,1):=zld
attribute[go_sem]Zvba Zv1 Ztia Zh1 Z1ca Zz2 Zy2 Zu1 Zt1 Zgca Z2ba Zlja Zhja Zex Zdx Zsba Znw Zfca Zr4 Zn4 Zcx Zx2 Zl2 Zwba Zbx Zm4 Zvy Zuy Zty Zsy Zry Zqy Zpy Zoy Zny Zmy Zly Zax Zrba Zmw Zqba Zlw Z9w Zpba Zkw Z8w Zw2 Zk2 Z0ca Z2y Z7w Zoba Zjw Zl4 Zky Zjy Ziy Z6w Zk4 Zhy Zgy Zfy Z5w Zv2 Zj2 Zzca Z4w Znba Zu2 Zi2 Zyca Z1y Z3w Zmba Ziw Zj4 Zey Z2w
theorem Zxy:Zqf Tryz.prog 202=some 3:=by kernel_rfl
theorem Zt2:zIX 202 3:=zix
theorem Zh2:zLN 202:=zln (m:=3)
theorem Zuba(a:V)(lo hi:Option V):Zge Tryz.prog 202 a lo hi none=slK 3 a lo hi:=Z3h Zxy a lo hi
theorem Zxca:zBS 202 3 [.int .u8 0,.str [],.int .i64 0]:=zbs (e:=238)
theorem Z0y:zAC [202,202] 3 32:=zac
theorem Z1w:zLD 238 (true,3):=zld
theorem Zlba:Z9a Tryz.prog 238=some 3:=by kernel_rfl
theorem Zhw:Zac Tryz.prog 238=some [.int .u8 0,.str [],.int .i64 0]:=by kernel_rfl
theorem Zi4:zBD 238 [(0,1),(1,1),(2,1)] [.int .u8 0,.str [],.int .i64 0]:=zbd
theorem Zdy:zFA 238 0 (0,false,1):=zfa
theorem Zcy:zFA 238 1 (1,false,1):=zfa
theorem Zby:zFA 238 2 (2,false,1):=zfa
theorem Z0w:zLD 240 (true,6):=zld
theorem Zkba:Z9a Tryz.prog 240=some 6:=by kernel_rfl
theorem Zgw:Zac Tryz.prog 240=some [.int .u8 0,.int .i64 0,.str [],.int .i64 0,.int .i64 0,.int .i64 0]:=by kernel_rfl
theorem Zh4:zBD 240 [(0,1),(1,1),(2,1),(3,1),(4,1),(5,1)] [.int .u8 0,.int .i64 0,.str [],.int .i64 0,.int .i64 0,.int .i64 0]:=zbd
theorem Zay:zFA 240 0 (0,false,1):=zfa
theorem Z9x:zFA 240 1 (1,false,1):=zfa
theorem Z8x:zFA 240 2 (2,false,1):=zfa
theorem Z7x:zFA 240 3 (3,false,1):=zfa
theorem Z6x:zFA 240 4 (4,false,1):=zfa
theorem Z5x:zFA 240 5 (5,false,1):=zfa
theorem Zzw:zLD 244 (false,1):=zld
theorem Zjba:Z9a Tryz.prog 244=some 1:=by kernel_rfl
theorem Zs2:zIX 244 3:=zix
theorem Zg2:zLN 244:=zln (m:=3)
theorem Zwca:zBS 244 3 [.int .u8 0,.str [],.nils]:=zbs (e:=282)
theorem Zzy:zAC [244,244] 3 48:=zac
theorem Zyw:zLD 246 (true,1):=zld
theorem Ziba:Z9a Tryz.prog 246=some 1:=by kernel_rfl
theorem Zfw:Zac Tryz.prog 246=some [.nils]:=by kernel_rfl
theorem Zg4:zBD 246 [(0,1)] [.nils]:=zbd
theorem Z4x:zFA 246 0 (0,false,1):=zfa
theorem Ztca(a:V)(ik:IntKind)(n:Int):Zyb Tryz.prog 271 a (.int ik n)=idxA 14 1 false a ik n:=Zjh (P:=Tryz.prog) (e:=9) (by kernel_rfl) (by kernel_rfl) (by kernel_rfl) zd a ik n
theorem Zf4:zBD 277 [(0,1),(1,1),(2,1)] [.nils,.int .i64 0,.int .i64 0]:=zbd
theorem Z3x:zFA 277 0 (0,false,1):=zfa
theorem Z2x:zFA 277 1 (1,false,1):=zfa
theorem Z1x:zFA 277 2 (2,false,1):=zfa
theorem Ze4:zBD 279 [(0,3),(3,1)] [.nils,.int .i64 0,.int .i64 0,.nils]:=zbd
theorem Z0x:zFA 279 0 (0,true,3):=zfa
theorem Zzx:zFA 279 1 (3,false,1):=zfa
theorem Zxw:zLD 282 (true,3):=zld
theorem Zhba:Z9a Tryz.prog 282=some 3:=by kernel_rfl
theorem Zew:Zac Tryz.prog 282=some [.int .u8 0,.str [],.nils]:=by kernel_rfl
theorem Zyx:zFA 282 0 (0,false,1):=zfa
theorem Zxx:zFA 282 1 (1,false,1):=zfa
theorem Zwx:zFA 282 2 (2,true,1):=zfa
theorem Zww:zLD 294 (false,1):=zld
theorem Zd4:zBD 296 [(0,1),(1,1),(2,1),(3,1),(4,1)] [.nils,.int .i64 0,.nils,.int .i64 0,.nilf]:=zbd
theorem Zvx:zFA 296 0 (0,false,1):=zfa
theorem Zux:zFA 296 1 (1,false,1):=zfa
theorem Ztx:zFA 296 2 (2,false,1):=zfa
theorem Zsx:zFA 296 3 (3,false,1):=zfa
theorem Zrx:zFA 296 4 (4,false,1):=zfa
theorem Zvw:zLD 300 (true,3):=zld
theorem Zgba:Z9a Tryz.prog 300=some 3:=by kernel_rfl
theorem Zdw:Zac Tryz.prog 300=some [.int .u8 0,.int .u8 0,.int .u8 0]:=by kernel_rfl
theorem Zc4:zBD 300 [(0,1),(1,1),(2,1)] [.int .u8 0,.int .u8 0,.int .u8 0]:=zbd
theorem Zqx:zFA 300 0 (0,false,1):=zfa
theorem Zpx:zFA 300 1 (1,false,1):=zfa
theorem Zox:zFA 300 2 (2,false,1):=zfa
theorem Zuw:zLD 302 (true,4):=zld
theorem Zfba:Z9a Tryz.prog 302=some 4:=by kernel_rfl
theorem Zcw:Zac Tryz.prog 302=some [.int .u8 0,.int .u8 0,.int .u8 0,.int .u8 0]:=by kernel_rfl
theorem Zb4:zBD 302 [(0,3),(3,1)] [.int .u8 0,.int .u8 0,.int .u8 0,.int .u8 0]:=zbd
theorem Znx:zFA 302 0 (0,true,3):=zfa
theorem Zmx:zFA 302 1 (3,false,1):=zfa
theorem Ztw:zLD 303 (true,92):=zld
theorem Zeba:Z9a Tryz.prog 303=some 92:=by kernel_rfl
theorem Zbw:Zac Tryz.prog 303=some (.int .u8 0::.int .u8 0::.int .u8 0::.int .u8 0::.int .u8 0::.int .u8 0::.int .u8 0::.int .u8 0::.int .u8 0::.int .u8 0::.int .u8 0::.int .u8 0::.int .u8 0::.int .u8 0::.int .u8 0::.int .u8 0::.int .u8 0::.int .u8 0::.int .u8 0::.int .u8 0::.int .u8 0::.int .u8 0::.int .u8 0::.int .u8 0::.int .u8 0::.int .u8 0::.int .u8 0::.int .u8 0::.int .u8 0::.int .u8 0::.int .u8 0::.int .u8 0::.int .u8 0::.int .u8 0::.int .u8 0::.int .u8 0::.int .u8 0::.int .u8 0::.int .u8 0::.int .u8 0::.int .u8 0::.int .u8 0::.int .u8 0::.int .u8 0::.int .u8 0::.int .u8 0::.int .u8 0::.int .u8 0::.int .u8 0::.int .u8 0::.int .u8 0::.int .u8 0::.int .u8 0::.int .u8 0::.int .u8 0::.int .u8 0::.int .u8 0::.int .u8 0::.int .u8 0::.int .u8 0::.int .u8 0::.int .u8 0::.int .u8 0::.int .u8 0::.int .u8 0::.int .u8 0::.int .u8 0::.int .u8 0::.int .u8 0::.int .u8 0::.int .u8 0::.int .u8 0::.int .u8 0::.int .u8 0::.int .u8 0::.int .u8 0::.int .u8 0::.int .u8 0::.int .u8 0::.int .u8 0::.int .u8 0::.int .u8 0::.int .u8 0::.int .u8 0::.int .u8 0::.int .u8 0::.int .u8 0::.int .u8 0::.int .u8 0::.int .u8 0::.int .u8 0::.int .u8 0::[]):=by kernel_rfl
theorem Zsca(a:V)(ik:IntKind)(n:Int):Zyb Tryz.prog 303 a (.int ik n)=idxA 23 4 true a ik n:=Zjh (P:=Tryz.prog) (e:=302) (by kernel_rfl) (by kernel_rfl) (by kernel_rfl) zd a ik n
theorem Zq4(l:List (Nat×V)):Zff Tryz.prog 303 l=(Zsd (mulP 4) (.int .u8 0::.int .u8 0::.int .u8 0::.int .u8 0::.int .u8 0::.int .u8 0::.int .u8 0::.int .u8 0::.int .u8 0::.int .u8 0::.int .u8 0::.int .u8 0::.int .u8 0::.int .u8 0::.int .u8 0::.int .u8 0::.int .u8 0::.int .u8 0::.int .u8 0::.int .u8 0::.int .u8 0::.int .u8 0::.int .u8 0::.int .u8 0::.int .u8 0::.int .u8 0::.int .u8 0::.int .u8 0::.int .u8 0::.int .u8 0::.int .u8 0::.int .u8 0::.int .u8 0::.int .u8 0::.int .u8 0::.int .u8 0::.int .u8 0::.int .u8 0::.int .u8 0::.int .u8 0::.int .u8 0::.int .u8 0::.int .u8 0::.int .u8 0::.int .u8 0::.int .u8 0::.int .u8 0::.int .u8 0::.int .u8 0::.int .u8 0::.int .u8 0::.int .u8 0::.int .u8 0::.int .u8 0::.int .u8 0::.int .u8 0::.int .u8 0::.int .u8 0::.int .u8 0::.int .u8 0::.int .u8 0::.int .u8 0::.int .u8 0::.int .u8 0::.int .u8 0::.int .u8 0::.int .u8 0::.int .u8 0::.int .u8 0::.int .u8 0::.int .u8 0::.int .u8 0::.int .u8 0::.int .u8 0::.int .u8 0::.int .u8 0::.int .u8 0::.int .u8 0::.int .u8 0::.int .u8 0::.int .u8 0::.int .u8 0::.int .u8 0::.int .u8 0::.int .u8 0::.int .u8 0::.int .u8 0::.int .u8 0::.int .u8 0::.int .u8 0::.int .u8 0::.int .u8 0::[]) l).map .agg:=Zum (P:=Tryz.prog) (N:=23) (e:=302) (by kernel_rfl) (by kernel_rfl) (by kernel_rfl) l
theorem Zsw:zLD 306 (true,93):=zld
theorem Zdba:Z9a Tryz.prog 306=some 93:=by kernel_rfl
theorem Zlx:zFA 306 0 (0,true,92):=zfa
theorem Zkx:zFA 306 1 (92,false,1):=zfa
theorem Zrw:zLD 319 (true,3):=zld
theorem Za4:zBD 319 [(0,1),(1,1),(2,1)] [.str [],.int .i64 0,.int .i64 0]:=zbd
theorem Zjx:zFA 319 0 (0,false,1):=zfa
theorem Zix:zFA 319 1 (1,false,1):=zfa
theorem Zhx:zFA 319 2 (2,false,1):=zfa
theorem Zqw:zLD 320 (true,69):=zld
theorem Zcba:Z9a Tryz.prog 320=some 69:=by kernel_rfl
theorem Zaw:Zac Tryz.prog 320=some (.str []::.int .i64 0::.int .i64 0::.str []::.int .i64 0::.int .i64 0::.str []::.int .i64 0::.int .i64 0::.str []::.int .i64 0::.int .i64 0::.str []::.int .i64 0::.int .i64 0::.str []::.int .i64 0::.int .i64 0::.str []::.int .i64 0::.int .i64 0::.str []::.int .i64 0::.int .i64 0::.str []::.int .i64 0::.int .i64 0::.str []::.int .i64 0::.int .i64 0::.str []::.int .i64 0::.int .i64 0::.str []::.int .i64 0::.int .i64 0::.str []::.int .i64 0::.int .i64 0::.str []::.int .i64 0::.int .i64 0::.str []::.int .i64 0::.int .i64 0::.str []::.int .i64 0::.int .i64 0::.str []::.int .i64 0::.int .i64 0::.str []::.int .i64 0::.int .i64 0::.str []::.int .i64 0::.int .i64 0::.str []::.int .i64 0::.int .i64 0::.str []::.int .i64 0::.int .i64 0::.str []::.int .i64 0::.int .i64 0::.str []::.int .i64 0::.int .i64 0::[]):=by kernel_rfl
theorem Zrca(a:V)(ik:IntKind)(n:Int):Zyb Tryz.prog 320 a (.int ik n)=idxA 23 3 true a ik n:=Zjh (P:=Tryz.prog) (e:=319) (by kernel_rfl) (by kernel_rfl) (by kernel_rfl) zd a ik n
theorem Zp4(l:List (Nat×V)):Zff Tryz.prog 320 l=(Zsd (mulP 3) (.str []::.int .i64 0::.int .i64 0::.str []::.int .i64 0::.int .i64 0::.str []::.int .i64 0::.int .i64 0::.str []::.int .i64 0::.int .i64 0::.str []::.int .i64 0::.int .i64 0::.str []::.int .i64 0::.int .i64 0::.str []::.int .i64 0::.int .i64 0::.str []::.int .i64 0::.int .i64 0::.str []::.int .i64 0::.int .i64 0::.str []::.int .i64 0::.int .i64 0::.str []::.int .i64 0::.int .i64 0::.str []::.int .i64 0::.int .i64 0::.str []::.int .i64 0::.int .i64 0::.str []::.int .i64 0::.int .i64 0::.str []::.int .i64 0::.int .i64 0::.str []::.int .i64 0::.int .i64 0::.str []::.int .i64 0::.int .i64 0::.str []::.int .i64 0::.int .i64 0::.str []::.int .i64 0::.int .i64 0::.str []::.int .i64 0::.int .i64 0::.str []::.int .i64 0::.int .i64 0::.str []::.int .i64 0::.int .i64 0::.str []::.int .i64 0::.int .i64 0::[]) l).map .agg:=Zum (P:=Tryz.prog) (N:=23) (e:=319) (by kernel_rfl) (by kernel_rfl) (by kernel_rfl) l
attribute[go_sem]Zt2 Zh2 Zuba Zxca Z0y Z1w Zlba Zhw Zi4 Zdy Zcy Zby Z0w Zkba Zgw Zh4 Zay Z9x Z8x Z7x Z6x Z5x Zzw Zjba Zs2 Zg2 Zwca Zzy Zyw Ziba Zfw Zg4 Z4x Ztca Zf4 Z3x Z2x Z1x Ze4 Z0x Zzx Zxw Zhba Zew Zyx Zxx Zwx Zww Zd4 Zvx Zux Ztx Zsx Zrx Zvw Zgba Zdw Zc4 Zqx Zpx Zox Zuw Zfba Zcw Zb4 Znx Zmx Ztw Zeba Zbw Zsca Zq4 Zsw Zdba Zlx Zkx Zrw Za4 Zjx Zix Zhx Zqw Zcba Zaw Zrca Zp4
theorem Zwy:Zqf Tryz.prog 327=some 2:=by kernel_rfl
theorem Zr2:zIX 327 2:=zix
theorem Zf2:zLN 327:=zln (m:=2)
theorem Ztba(a:V)(lo hi:Option V):Zge Tryz.prog 327 a lo hi none=slK 2 a lo hi:=Z3h Zwy a lo hi
theorem Zvca:zBS 327 2 [.int .i64 0,.int .i64 0]:=zbs (e:=330)
theorem Zyy:zAC [327,327] 2 16:=zac
theorem Zpw:zLD 330 (true,2):=zld
theorem Zbba:Z9a Tryz.prog 330=some 2:=by kernel_rfl
theorem Z9v:Zac Tryz.prog 330=some [.int .i64 0,.int .i64 0]:=by kernel_rfl
theorem Z93:zBD 330 [(0,1),(1,1)] [.int .i64 0,.int .i64 0]:=zbd
theorem Zgx:zFA 330 0 (0,false,1):=zfa
theorem Zfx:zFA 330 1 (1,false,1):=zfa
theorem Zq2:zIX 343 3:=zix
theorem Ze2:zLN 343:=zln (m:=3)
theorem Zeca(l:List V)(ik:IntKind)(n:Int):Zih Tryz.prog 354 (.agg l) (.int ik n)=if 0<=n/\n<(3:Nat)then Z2k false 1 l (n.toNat*1)else none:=Zj6 (P:=Tryz.prog) (e:=9) (by kernel_rfl) (by kernel_rfl) (by kernel_rfl) zd l ik n
theorem Zo4(l:List (Nat×V)):Zff Tryz.prog 354 l=(Zsd (mulP 1) [.str [],.str [],.str []] l).map .agg:=Zum (P:=Tryz.prog) (N:=3) (e:=9) (by kernel_rfl) (by kernel_rfl) (by kernel_rfl) l
theorem Zuca(k:IntKind)(n:Int):Zx0 Tryz.prog 3 5 (.int k n)=some (.int .u8 (IntKind.wrap .u8 n)):=Zdna (P:=Tryz.prog) (s:=3) (d:=5) (by kernel_rfl) (by kernel_rfl) k n
attribute[go_sem]Zr2 Zf2 Ztba Zvca Zyy Zpw Zbba Z9v Z93 Zgx Zfx Zq2 Ze2 Zeca Zo4 Zuca
end Go.Hs
