/- A part. No condition. -/
import Derived.Test.YtegjlbpnpiigkaaGreatDoorP17
import Derived.Test.YtegjlbpnpiigkaaGreatDoorProg
import Derived.KernelRfl
set_option linter.all false
namespace Go.Hs
open Go.Proofs
abbrev zFA(t n:Nat)(x:Nat×Bool×Nat):Prop:=∀ a,Z8d Tryz.prog t a n=fldK (some x) a
theorem zfa{t n:Nat}{x:Nat×Bool×Nat}(h:fldOf Tryz.prog t n=some x:=by kernel_rfl):zFA t n x:=λa=>Z0w h a
abbrev zLD(t:Nat)(x:Bool×Nat):Prop:=∀ (H:Heap) (a:V),Z9b Tryz.prog H t a=Zhn (some x) (obOf H a) a
theorem zld{t n:Nat}{b:Bool}(h:Zs1 Tryz.prog t=some (b,n):=by kernel_rfl):zLD t (b,n):=λH a=>readV_K h H a
abbrev zIX(t m:Nat):Prop:=∀ a i:V,Z3b Tryz.prog t a i=idxK (some m) a i
theorem zix{t m:Nat}(h:Z9f Tryz.prog t=some m:=by kernel_rfl):zIX t m:=λa i=>Zow h a i
abbrev zLN(t:Nat):Prop:=∀ a:V,lenV Tryz.prog t a=Z48 true a
theorem zln{t m:Nat}(h:Z9f Tryz.prog t=some m:=by kernel_rfl):zLN t:=λa=>Zyba h a
abbrev zAC(l:List Nat)(m b:Nat):Prop:=∀ (E:Ent) (ops:Array Oper) (Q:AS->Prop) (rest:List Oper) (e:Nat) (τ : Nat->V) (H:Heap) (x y:V),appC Tryz.prog E ops Q rest e τ H l x y=appE Tryz.prog E ops Q rest e τ H m b x (Zed H m y) (obS H x)
theorem zac{l:List Nat}{m b:Nat}(h:appOf Tryz.prog l=some (m,b):=by kernel_rfl):zAC l m b:=λE ops Q rest e τ H x y=>appC_E ops h e x y
abbrev zBD(t:Nat)(T:List (Nat×Nat))(Z:List V):Prop:=∀ l:List (Nat×V),Zag Tryz.prog t l=(Zzd (tblP T) Z l).map .agg
theorem zbd{t:Nat}{T:List (Nat×Nat)}{Z:List V}(h:tblOf Tryz.prog t=some T:=by kernel_rfl)(h2:Z8e Tryz.prog t=some (.agg Z):=by kernel_rfl):zBD t T Z:=λl=>Zi9 h h2 l
abbrev zBS(t m:Nat)(Z:List V):Prop:=∀ (n:Nat) (l:List (Nat×V)),Zeq Tryz.prog t n l=bsK m Z n l
theorem zbs{t m e:Nat}{Z:List V}(h:Tryz.prog.underlying t=some (.slice e):=by kernel_rfl)(h2:Znb Tryz.prog e=some m:=by kernel_rfl)(h3:Zxc Tryz.prog e=some Z:=by kernel_rfl)(h4:Z.length=m:=by rfl):zBS t m Z:=λn l=>Zuja h h2 h3 h4 n l
theorem Zxda:zLD 2 (false,1):=zld
theorem Zwda:zLD 3 (false,1):=zld
theorem Zyoa:Znb Tryz.prog 3=some 1:=by kernel_rfl
theorem Zvda:zLD 4 (false,1):=zld
theorem Z1ka(a b:Bool):Zlh Tryz.prog .eql 4 (.bool a) (.bool b)=some (.bool (a==b)):=(Zzja (P:=Tryz.prog) (by kernel_rfl) a b).1
theorem Zuda:zLD 5 (false,1):=zld
theorem Zxoa:Znb Tryz.prog 5=some 1:=by kernel_rfl
theorem Ztda:zLD 9 (false,1):=zld
theorem Zwoa:Znb Tryz.prog 9=some 1:=by kernel_rfl
attribute[go_sem]Zxda Zwda Zyoa Zvda Z1ka Zuda Zxoa Ztda Zwoa
theorem Zqq:Zs2 Tryz.prog 9=true:=by kernel_rfl
theorem Zzka(a:V):lenV Tryz.prog 9 a=Z48 false a:=Zona Zqq a
theorem Z0ka(s:List UInt8)(k:IntKind)(n:Int):Zyh Tryz.prog 9 (.str s) (.int k n)=if 0<=n then(s[n.toNat]?).map λb=>.int .u8 b.toNat else none:=Z3ba Zqq s k n
theorem Zqka(s:List UInt8)(lo hi:Option V):Zaf Tryz.prog 9 (.str s) lo hi none=slJ (Zpa 0 lo) (Zpa s.length hi) λi j=>if i<=j/\j<=s.length then some (.str ((s.drop i).take (j-i)))else none:=Zgaa Zqq s lo hi
theorem Zk4:zLD 22 (false,1):=zld
theorem Zpka:Znb Tryz.prog 22=some 1:=by kernel_rfl
attribute[go_sem]Zzka Z0ka Zqka Zk4 Zpka
theorem Zyka:Zdg Tryz.prog 22=2:=by kernel_rfl
@[go_sem] theorem Tryz.eqn22(a:V):Zlh Tryz.prog .eql 22 a .nils=(nilK 2 a).map .bool:=(Z8k _ _ Zyka zS a).1
theorem Zv6:Z9f Tryz.prog 22=some 2:=by kernel_rfl
theorem Znea:zIX 22 2:=zix
theorem Z9da:zLN 22:=zln (m:=2)
theorem Ztka(a:V)(lo hi:Option V):Zaf Tryz.prog 22 a lo hi none=slK 2 a lo hi:=Zgi Zv6 a lo hi
theorem Zdla:zBS 22 2 [.str [],.int .i64 0]:=zbs (e:=94)
theorem Zu7:zAC [22,22] 2 24:=zac
theorem Zj4:zLD 23 (false,1):=zld
theorem Zoka:Znb Tryz.prog 23=some 1:=by kernel_rfl
attribute[go_sem]Znea Z9da Ztka Zdla Zu7 Zj4 Zoka
theorem Zxka:Zdg Tryz.prog 23=2:=by kernel_rfl
@[go_sem] theorem Tryz.eqn23(a:V):Zlh Tryz.prog .eql 23 a .nils=(nilK 2 a).map .bool:=(Z8k _ _ Zxka zS a).1
theorem Zu6:Z9f Tryz.prog 23=some 1:=by kernel_rfl
theorem Zmea:zIX 23 1:=zix
theorem Z8da:zLN 23:=zln (m:=1)
theorem Zska(a:V)(lo hi:Option V):Zaf Tryz.prog 23 a lo hi none=slK 1 a lo hi:=Zgi Zu6 a lo hi
theorem Zcla:zBS 23 1 [.str []]:=zbs (e:=9)
theorem Zt7:zAC [23,23] 1 16:=zac
theorem Zi4:zLD 24 (false,1):=zld
theorem Znka:Znb Tryz.prog 24=some 1:=by kernel_rfl
attribute[go_sem]Zmea Z8da Zska Zcla Zt7 Zi4 Znka
theorem Zwka:Zdg Tryz.prog 24=2:=by kernel_rfl
theorem Ztea(a:V):Zlh Tryz.prog .eql 24 a .nils=(nilK 2 a).map .bool:=(Z8k _ _ Zwka zS a).1
theorem Zlea:zIX 24 2:=zix
theorem Z7da:zLN 24:=zln (m:=2)
theorem Zbla:zBS 24 2 [.str [],.int .i64 0]:=zbs (e:=53)
theorem Zs7:zAC [24,24] 2 24:=zac
theorem Zh4:zLD 25 (false,1):=zld
theorem Zmka:Znb Tryz.prog 25=some 1:=by kernel_rfl
attribute[go_sem]Ztea Zlea Z7da Zbla Zs7 Zh4 Zmka
theorem Zvka:Zdg Tryz.prog 25=2:=by kernel_rfl
theorem Zsea(a:V):Zlh Tryz.prog .eql 25 a .nils=(nilK 2 a).map .bool:=(Z8k _ _ Zvka zS a).1
theorem Zkea:zIX 25 8:=zix
theorem Z6da:zLN 25:=zln (m:=8)
theorem Zala:zBS 25 8 [.str [],.int .u8 0,.int .i64 0,.int .i64 0,.str [],.str [],.nils,.str []]:=zbs (e:=51)
theorem Zr7:zAC [25,25] 8 112:=zac
theorem Zg4:zLD 26 (false,1):=zld
theorem Zlka:Znb Tryz.prog 26=some 1:=by kernel_rfl
attribute[go_sem]Zsea Zkea Z6da Zala Zr7 Zg4 Zlka
theorem Zuka:Zdg Tryz.prog 26=2:=by kernel_rfl
theorem Zrea(a:V):Zlh Tryz.prog .eql 26 a .nils=(nilK 2 a).map .bool:=(Z8k _ _ Zuka zS a).1
theorem Zjea:zIX 26 8:=zix
theorem Z5da:zLN 26:=zln (m:=8)
theorem Z9ka:zBS 26 8 [.str [],.int .i64 0,.int .i64 0,.nils,.int .i64 0,.str [],.str [],.int .u8 0]:=zbs (e:=55)
theorem Zq7:zAC [26,26] 8 104:=zac
theorem Zf4:zLD 28 (true,6):=zld
theorem Zkka:Znb Tryz.prog 28=some 6:=by kernel_rfl
theorem Zy3:Zxc Tryz.prog 28=some [.str [],.nils,.nils,.nils,.nils,.nils]:=by kernel_rfl
theorem Zgfa:zBD 28 [(0,1),(1,1),(2,1),(3,1),(4,1),(5,1)] [.str [],.nils,.nils,.nils,.nils,.nils]:=zbd
theorem Zr6:zFA 28 0 (0,false,1):=zfa
theorem Zq6:zFA 28 1 (1,false,1):=zfa
theorem Zp6:zFA 28 2 (2,false,1):=zfa
theorem Zo6:zFA 28 3 (3,false,1):=zfa
theorem Zn6:zFA 28 4 (4,false,1):=zfa
theorem Zm6:zFA 28 5 (5,false,1):=zfa
theorem Ziea:zIX 31 2:=zix
theorem Z4da:zLN 31:=zln (m:=2)
theorem Z8ka:zBS 31 2 [.int .u8 0,.int .i64 0]:=zbs (e:=92)
theorem Zp7:zAC [31,31] 2 16:=zac
theorem Ze4:zLD 32 (false,1):=zld
theorem Zjka:Znb Tryz.prog 32=some 1:=by kernel_rfl
theorem Zd4:zLD 35 (false,1):=zld
theorem Zika:Znb Tryz.prog 35=some 1:=by kernel_rfl
theorem Zhea:zIX 35 2:=zix
theorem Z3da:zLN 35:=zln (m:=2)
theorem Z7ka:zBS 35 2 [.str [],.int .i64 0]:=zbs (e:=95)
theorem Zo7:zAC [35,35] 2 24:=zac
theorem Zc4:zLD 36 (false,1):=zld
theorem Zhka:Znb Tryz.prog 36=some 1:=by kernel_rfl
theorem Zgea:zIX 36 2:=zix
theorem Z2da:zLN 36:=zln (m:=2)
theorem Z6ka:zBS 36 2 [.str [],.int .i64 0]:=zbs (e:=96)
theorem Zn7:zAC [36,36] 2 24:=zac
theorem Zb4:zLD 37 (false,1):=zld
theorem Zgka:Znb Tryz.prog 37=some 1:=by kernel_rfl
theorem Zfea:zIX 37 8:=zix
theorem Z1da:zLN 37:=zln (m:=8)
theorem Z5ka:zBS 37 8 [.str [],.int .u8 0,.int .i64 0,.int .i64 0,.str [],.str [],.nils,.str []]:=zbs (e:=97)
theorem Zm7:zAC [37,37] 8 112:=zac
theorem Za4:zLD 38 (false,1):=zld
theorem Zfka:Znb Tryz.prog 38=some 1:=by kernel_rfl
theorem Zeea:zIX 38 8:=zix
theorem Z0da:zLN 38:=zln (m:=8)
theorem Z4ka:zBS 38 8 [.str [],.int .i64 0,.int .i64 0,.nils,.int .i64 0,.str [],.str [],.int .u8 0]:=zbs (e:=98)
theorem Zl7:zAC [38,38] 8 104:=zac
theorem Z93:zLD 40 (true,6):=zld
theorem Zeka:Znb Tryz.prog 40=some 6:=by kernel_rfl
theorem Zx3:Zxc Tryz.prog 40=some [.str [],.nils,.nils,.nils,.nils,.nils]:=by kernel_rfl
theorem Zffa:zBD 40 [(0,1),(1,1),(2,1),(3,1),(4,1),(5,1)] [.str [],.nils,.nils,.nils,.nils,.nils]:=zbd
theorem Zl6:zFA 40 0 (0,false,1):=zfa
theorem Zk6:zFA 40 1 (1,false,1):=zfa
theorem Zj6:zFA 40 2 (2,false,1):=zfa
theorem Zi6:zFA 40 3 (3,false,1):=zfa
theorem Zh6:zFA 40 4 (4,false,1):=zfa
theorem Zg6:zFA 40 5 (5,false,1):=zfa
theorem Zdea:zIX 42 2:=zix
theorem Zzda:zLN 42:=zln (m:=2)
theorem Z3ka:zBS 42 2 [.int .u8 0,.int .i64 0]:=zbs (e:=47)
theorem Zk7:zAC [42,42] 2 16:=zac
theorem Z83:zLD 47 (true,2):=zld
theorem Zefa:zBD 47 [(0,1),(1,1)] [.int .u8 0,.int .i64 0]:=zbd
theorem Zf6:zFA 47 0 (0,false,1):=zfa
theorem Ze6:zFA 47 1 (1,false,1):=zfa
theorem Zs6(x0 y0:Int)(x1 y1:Int):Zlh Tryz.prog .eql 47 (.agg [.int .u8 x0,.int .i64 x1]) (.agg [.int .u8 y0,.int .i64 y1])=some (.bool (x0==y0&&(x1==y1&&true))):=(Zjx (P:=Tryz.prog) (t:=47) (by kernel_rfl) (Z6n (Z6n Zd9 .i64 x1 y1) .u8 x0 y0)).1
theorem Zz3(x0 y0:Int)(x1 y1:Int):Zlh Tryz.prog .neq 47 (.agg [.int .u8 x0,.int .i64 x1]) (.agg [.int .u8 y0,.int .i64 y1])=some (.bool (!(x0==y0&&(x1==y1&&true)))):=(Zjx (P:=Tryz.prog) (t:=47) (by kernel_rfl) (Z6n (Z6n Zd9 .i64 x1 y1) .u8 x0 y0)).2
theorem Z73:zLD 51 (true,8):=zld
theorem Zdka:Znb Tryz.prog 51=some 8:=by kernel_rfl
theorem Zw3:Zxc Tryz.prog 51=some [.str [],.int .u8 0,.int .i64 0,.int .i64 0,.str [],.str [],.nils,.str []]:=by kernel_rfl
theorem Zdfa:zBD 51 [(0,1),(1,1),(2,1),(3,1),(4,1),(5,1),(6,1),(7,1)] [.str [],.int .u8 0,.int .i64 0,.int .i64 0,.str [],.str [],.nils,.str []]:=zbd
theorem Zd6:zFA 51 0 (0,false,1):=zfa
theorem Zc6:zFA 51 1 (1,false,1):=zfa
theorem Zb6:zFA 51 2 (2,false,1):=zfa
theorem Za6:zFA 51 3 (3,false,1):=zfa
theorem Z95:zFA 51 4 (4,false,1):=zfa
theorem Z85:zFA 51 5 (5,false,1):=zfa
theorem Z75:zFA 51 6 (6,false,1):=zfa
theorem Z65:zFA 51 7 (7,false,1):=zfa
theorem Z63:zLD 53 (true,2):=zld
theorem Zcka:Znb Tryz.prog 53=some 2:=by kernel_rfl
theorem Zv3:Zxc Tryz.prog 53=some [.str [],.int .i64 0]:=by kernel_rfl
theorem Zcfa:zBD 53 [(0,1),(1,1)] [.str [],.int .i64 0]:=zbd
theorem Z55:zFA 53 0 (0,false,1):=zfa
theorem Z45:zFA 53 1 (1,false,1):=zfa
theorem Z53:zLD 55 (true,8):=zld
theorem Zbka:Znb Tryz.prog 55=some 8:=by kernel_rfl
theorem Zu3:Zxc Tryz.prog 55=some [.str [],.int .i64 0,.int .i64 0,.nils,.int .i64 0,.str [],.str [],.int .u8 0]:=by kernel_rfl
theorem Zbfa:zBD 55 [(0,1),(1,1),(2,1),(3,1),(4,1),(5,1),(6,1),(7,1)] [.str [],.int .i64 0,.int .i64 0,.nils,.int .i64 0,.str [],.str [],.int .u8 0]:=zbd
theorem Z35:zFA 55 0 (0,false,1):=zfa
theorem Z25:zFA 55 1 (1,false,1):=zfa
theorem Z15:zFA 55 2 (2,false,1):=zfa
theorem Z05:zFA 55 3 (3,false,1):=zfa
theorem Zz5:zFA 55 4 (4,false,1):=zfa
theorem Zy5:zFA 55 5 (5,false,1):=zfa
theorem Zx5:zFA 55 6 (6,false,1):=zfa
theorem Zw5:zFA 55 7 (7,false,1):=zfa
theorem Z43:zLD 66 (false,1):=zld
attribute[go_sem]Zrea Zjea Z5da Z9ka Zq7 Zf4 Zkka Zy3 Zgfa Zr6 Zq6 Zp6 Zo6 Zn6 Zm6 Ziea Z4da Z8ka Zp7 Ze4 Zjka Zd4 Zika Zhea Z3da Z7ka Zo7 Zc4 Zhka Zgea Z2da Z6ka Zn7 Zb4 Zgka Zfea Z1da Z5ka Zm7 Za4 Zfka Zeea Z0da Z4ka Zl7 Z93 Zeka Zx3 Zffa Zl6 Zk6 Zj6 Zi6 Zh6 Zg6 Zdea Zzda Z3ka Zk7 Z83 Zefa Zf6 Ze6 Zs6 Zz3 Z73 Zdka Zw3 Zdfa Zd6 Zc6 Zb6 Za6 Z95 Z85 Z75 Z65 Z63 Zcka Zv3 Zcfa Z55 Z45 Z53 Zbka Zu3 Zbfa Z35 Z25 Z15 Z05 Zz5 Zy5 Zx5 Zw5 Z43
theorem Zt6:Z9f Tryz.prog 66=some 1:=by kernel_rfl
theorem Zcea:zIX 66 1:=zix
theorem Zyda:zLN 66:=zln (m:=1)
theorem Zrka(a:V)(lo hi:Option V):Zaf Tryz.prog 66 a lo hi none=slK 1 a lo hi:=Zgi Zt6 a lo hi
theorem Z2ka:zBS 66 1 [.int .i64 0]:=zbs (e:=3)
theorem Zj7:zAC [66,66] 1 8:=zac
theorem Zafa:zBD 92 [(0,1),(1,1)] [.int .u8 0,.int .i64 0]:=zbd
theorem Zv5:zFA 92 0 (0,false,1):=zfa
theorem Zu5:zFA 92 1 (1,false,1):=zfa
theorem Z33:zLD 94 (true,2):=zld
theorem Zaka:Znb Tryz.prog 94=some 2:=by kernel_rfl
theorem Zt3:Zxc Tryz.prog 94=some [.str [],.int .i64 0]:=by kernel_rfl
theorem Z9ea:zBD 94 [(0,1),(1,1)] [.str [],.int .i64 0]:=zbd
theorem Zt5:zFA 94 0 (0,false,1):=zfa
theorem Zs5:zFA 94 1 (1,false,1):=zfa
theorem Z8ea:zBD 95 [(0,1),(1,1)] [.str [],.int .i64 0]:=zbd
theorem Zr5:zFA 95 0 (0,false,1):=zfa
theorem Z23:zLD 96 (true,2):=zld
theorem Z9ja:Znb Tryz.prog 96=some 2:=by kernel_rfl
theorem Zs3:Zxc Tryz.prog 96=some [.str [],.int .i64 0]:=by kernel_rfl
theorem Z7ea:zBD 96 [(0,1),(1,1)] [.str [],.int .i64 0]:=zbd
theorem Zq5:zFA 96 0 (0,false,1):=zfa
theorem Zp5:zFA 96 1 (1,false,1):=zfa
theorem Z13:zLD 97 (true,8):=zld
theorem Z8ja:Znb Tryz.prog 97=some 8:=by kernel_rfl
theorem Zr3:Zxc Tryz.prog 97=some [.str [],.int .u8 0,.int .i64 0,.int .i64 0,.str [],.str [],.nils,.str []]:=by kernel_rfl
theorem Z6ea:zBD 97 [(0,1),(1,1),(2,1),(3,1),(4,1),(5,1),(6,1),(7,1)] [.str [],.int .u8 0,.int .i64 0,.int .i64 0,.str [],.str [],.nils,.str []]:=zbd
theorem Zo5:zFA 97 0 (0,false,1):=zfa
theorem Zn5:zFA 97 1 (1,false,1):=zfa
theorem Zm5:zFA 97 2 (2,false,1):=zfa
theorem Zl5:zFA 97 3 (3,false,1):=zfa
theorem Zk5:zFA 97 4 (4,false,1):=zfa
theorem Zj5:zFA 97 5 (5,false,1):=zfa
theorem Zi5:zFA 97 6 (6,false,1):=zfa
theorem Zh5:zFA 97 7 (7,false,1):=zfa
theorem Z03:zLD 98 (true,8):=zld
theorem Z7ja:Znb Tryz.prog 98=some 8:=by kernel_rfl
theorem Zq3:Zxc Tryz.prog 98=some [.str [],.int .i64 0,.int .i64 0,.nils,.int .i64 0,.str [],.str [],.int .u8 0]:=by kernel_rfl
theorem Z5ea:zBD 98 [(0,1),(1,1),(2,1),(3,1),(4,1),(5,1),(6,1),(7,1)] [.str [],.int .i64 0,.int .i64 0,.nils,.int .i64 0,.str [],.str [],.int .u8 0]:=zbd
theorem Zg5:zFA 98 0 (0,false,1):=zfa
theorem Zf5:zFA 98 1 (1,false,1):=zfa
theorem Ze5:zFA 98 2 (2,false,1):=zfa
theorem Zd5:zFA 98 3 (3,false,1):=zfa
theorem Zc5:zFA 98 4 (4,false,1):=zfa
theorem Zb5:zFA 98 5 (5,false,1):=zfa
theorem Za5:zFA 98 6 (6,false,1):=zfa
theorem Z94:zFA 98 7 (7,false,1):=zfa
theorem Zyy:zLD 100 (false,1):=zld
theorem Zxy:zLD 103 (true,16):=zld
theorem Zpda:Znb Tryz.prog 103=some 16:=by kernel_rfl
theorem Z7x:Zxc Tryz.prog 103=some [.nilf,.nilf,.nilf,.nilf,.nilf,.nilf,.nilf,.nilf,.nilf,.nilf,.nilf,.nilf,.nilf,.nilf,.nilf,.nilf]:=by kernel_rfl
theorem Zbea(l:List V)(ik:IntKind)(n:Int):Zyh Tryz.prog 103 (.agg l) (.int ik n)=if 0<=n/\n<(16:Nat)then Zvl false 1 l (n.toNat*1)else none:=Z68 (P:=Tryz.prog) (e:=102) (by kernel_rfl) (by kernel_rfl) (by kernel_rfl) zd l ik n
theorem Zi7(l:List (Nat×V)):Zag Tryz.prog 103 l=(Zzd (mulP 1) [.nilf,.nilf,.nilf,.nilf,.nilf,.nilf,.nilf,.nilf,.nilf,.nilf,.nilf,.nilf,.nilf,.nilf,.nilf,.nilf] l).map .agg:=Z7n (P:=Tryz.prog) (N:=16) (e:=102) (by kernel_rfl) (by kernel_rfl) (by kernel_rfl) l
theorem Zwy:zLD 135 (false,1):=zld
theorem Zoda:Znb Tryz.prog 135=some 1:=by kernel_rfl
theorem Z6x:Zxc Tryz.prog 135=some [.nilf]:=by kernel_rfl
theorem Zvy:zLD 136 (false,1):=zld
theorem Z84:zIX 136 1:=zix
theorem Zu4:zLN 136:=zln (m:=1)
theorem Z4ea:zBS 136 1 [.int .u8 0]:=zbs (e:=5)
theorem Zss(a b:V):Zmp Tryz.prog 136 a b=msK 1 1 [.int .u8 0] a b:=Zwha (P:=Tryz.prog) (t:=136) (e:=5) (E:=1) (bytes:=1) (z:=[.int .u8 0]) (by kernel_rfl) (by kernel_rfl) (by kernel_rfl) (by kernel_rfl) rfl a b
theorem Zz0:zAC [136,136] 1 1:=zac
theorem Ze7:zBD 138 [(0,6),(6,1)] [.str [],.nils,.nils,.nils,.nils,.nils,.nils]:=zbd
theorem Zo0:zFA 138 0 (0,true,6):=zfa
theorem Zn0:zFA 138 1 (6,false,1):=zfa
theorem Zuy:zLD 140 (true,3):=zld
theorem Znda:Znb Tryz.prog 140=some 3:=by kernel_rfl
theorem Z5x:Zxc Tryz.prog 140=some [.int .u8 0,.int .i64 0,.int .i64 0]:=by kernel_rfl
theorem Zd7:zBD 140 [(0,1),(1,1),(2,1)] [.int .u8 0,.int .i64 0,.int .i64 0]:=zbd
theorem Zm0:zFA 140 0 (0,false,1):=zfa
theorem Zl0:zFA 140 1 (1,false,1):=zfa
theorem Zk0:zFA 140 2 (2,false,1):=zfa
theorem Zty:zLD 142 (false,1):=zld
theorem Zc7:zBD 144 [(0,6),(6,1),(7,1)] [.str [],.nils,.nils,.nils,.nils,.nils,.nils,.nils]:=zbd
theorem Zj0:zFA 144 0 (0,true,6):=zfa
theorem Zi0:zFA 144 1 (6,false,1):=zfa
theorem Zh0:zFA 144 2 (7,false,1):=zfa
theorem Z74:zIX 178 1:=zix
theorem Zt4:zLN 178:=zln (m:=1)
theorem Z3ea:zBS 178 1 [.nilf]:=zbs (e:=142)
theorem Zsy:zLD 195 (false,1):=zld
theorem Zmda:Znb Tryz.prog 195=some 1:=by kernel_rfl
theorem Z64:zIX 195 6:=zix
theorem Zs4:zLN 195:=zln (m:=6)
theorem Z2ea:zBS 195 6 [.int .u8 0,.int .i64 0,.str [],.int .i64 0,.int .i64 0,.int .i64 0]:=zbs (e:=239)
theorem Zy0:zAC [195,195] 6 56:=zac
theorem Zry:zLD 197 (true,1):=zld
theorem Zlda:Znb Tryz.prog 197=some 1:=by kernel_rfl
theorem Z4x:Zxc Tryz.prog 197=some [.nils]:=by kernel_rfl
theorem Zb7:zBD 197 [(0,1)] [.nils]:=zbd
theorem Zg0:zFA 197 0 (0,false,1):=zfa
theorem Zqy:zLD 200 (false,1):=zld
attribute[go_sem]Zcea Zyda Zrka Z2ka Zj7 Zafa Zv5 Zu5 Z33 Zaka Zt3 Z9ea Zt5 Zs5 Z8ea Zr5 Z23 Z9ja Zs3 Z7ea Zq5 Zp5 Z13 Z8ja Zr3 Z6ea Zo5 Zn5 Zm5 Zl5 Zk5 Zj5 Zi5 Zh5 Z03 Z7ja Zq3 Z5ea Zg5 Zf5 Ze5 Zd5 Zc5 Zb5 Za5 Z94 Zyy Zxy Zpda Z7x Zbea Zi7 Zwy Zoda Z6x Zvy Z84 Zu4 Z4ea Zss Zz0 Ze7 Zo0 Zn0 Zuy Znda Z5x Zd7 Zm0 Zl0 Zk0 Zty Zc7 Zj0 Zi0 Zh0 Z74 Zt4 Z3ea Zsy Zmda Z64 Zs4 Z2ea Zy0 Zry Zlda Z4x Zb7 Zg0 Zqy
theorem Zr0:Z9f Tryz.prog 200=some 3:=by kernel_rfl
theorem Z54:zIX 200 3:=zix
theorem Zr4:zLN 200:=zln (m:=3)
theorem Zsda(a:V)(lo hi:Option V):Zaf Tryz.prog 200 a lo hi none=slK 3 a lo hi:=Zgi Zr0 a lo hi
theorem Z1ea:zBS 200 3 [.int .u8 0,.str [],.int .i64 0]:=zbs (e:=237)
theorem Zx0:zAC [200,200] 3 32:=zac
theorem Z44:zIX 221 3:=zix
theorem Zq4:zLN 221:=zln (m:=3)
theorem Z0ea:zBS 221 3 [.int .u8 0,.str [],.nils]:=zbs (e:=269)
theorem Zw0:zAC [221,221] 3 48:=zac
theorem Zpy:zLD 226 (false,1):=zld
theorem Zkda:Znb Tryz.prog 226=some 1:=by kernel_rfl
theorem Z34:zIX 226 6:=zix
theorem Zp4:zLN 226:=zln (m:=6)
theorem Zzea:zBS 226 6 [.int .u8 0,.int .i64 0,.str [],.int .i64 0,.int .i64 0,.int .i64 0]:=zbs (e:=274)
theorem Zv0:zAC [226,226] 6 56:=zac
theorem Zoy:zLD 229 (false,1):=zld
attribute[go_sem]Z54 Zr4 Zsda Z1ea Zx0 Z44 Zq4 Z0ea Zw0 Zpy Zkda Z34 Zp4 Zzea Zv0 Zoy
theorem Zq0:Z9f Tryz.prog 229=some 3:=by kernel_rfl
theorem Z24:zIX 229 3:=zix
theorem Zo4:zLN 229:=zln (m:=3)
theorem Zrda(a:V)(lo hi:Option V):Zaf Tryz.prog 229 a lo hi none=slK 3 a lo hi:=Zgi Zq0 a lo hi
theorem Zyea:zBS 229 3 [.int .u8 0,.str [],.int .i64 0]:=zbs (e:=267)
theorem Zu0:zAC [229,229] 3 32:=zac
theorem Zny:zLD 237 (true,3):=zld
theorem Zjda:Znb Tryz.prog 237=some 3:=by kernel_rfl
theorem Z3x:Zxc Tryz.prog 237=some [.int .u8 0,.str [],.int .i64 0]:=by kernel_rfl
theorem Za7:zBD 237 [(0,1),(1,1),(2,1)] [.int .u8 0,.str [],.int .i64 0]:=zbd
theorem Zf0:zFA 237 0 (0,false,1):=zfa
theorem Ze0:zFA 237 1 (1,false,1):=zfa
theorem Zd0:zFA 237 2 (2,false,1):=zfa
theorem Zmy:zLD 239 (true,6):=zld
theorem Zida:Znb Tryz.prog 239=some 6:=by kernel_rfl
theorem Z2x:Zxc Tryz.prog 239=some [.int .u8 0,.int .i64 0,.str [],.int .i64 0,.int .i64 0,.int .i64 0]:=by kernel_rfl
theorem Z96:zBD 239 [(0,1),(1,1),(2,1),(3,1),(4,1),(5,1)] [.int .u8 0,.int .i64 0,.str [],.int .i64 0,.int .i64 0,.int .i64 0]:=zbd
theorem Zc0:zFA 239 0 (0,false,1):=zfa
theorem Zb0:zFA 239 1 (1,false,1):=zfa
theorem Za0:zFA 239 2 (2,false,1):=zfa
theorem Z9z:zFA 239 3 (3,false,1):=zfa
theorem Z8z:zFA 239 4 (4,false,1):=zfa
theorem Z7z:zFA 239 5 (5,false,1):=zfa
theorem Zly:zLD 243 (false,1):=zld
theorem Zhda:Znb Tryz.prog 243=some 1:=by kernel_rfl
theorem Z14:zIX 243 3:=zix
theorem Zn4:zLN 243:=zln (m:=3)
theorem Zxea:zBS 243 3 [.int .u8 0,.str [],.nils]:=zbs (e:=291)
theorem Zt0:zAC [243,243] 3 48:=zac
theorem Zky:zLD 245 (true,1):=zld
theorem Zgda:Znb Tryz.prog 245=some 1:=by kernel_rfl
theorem Z1x:Zxc Tryz.prog 245=some [.nils]:=by kernel_rfl
theorem Z86:zBD 245 [(0,1)] [.nils]:=zbd
theorem Z6z:zFA 245 0 (0,false,1):=zfa
theorem Z76:zBD 267 [(0,1),(1,1),(2,1)] [.int .u8 0,.str [],.int .i64 0]:=zbd
theorem Z5z:zFA 267 0 (0,false,1):=zfa
theorem Z4z:zFA 267 1 (1,false,1):=zfa
theorem Z3z:zFA 267 2 (2,false,1):=zfa
theorem Zjy:zLD 269 (true,3):=zld
theorem Zfda:Znb Tryz.prog 269=some 3:=by kernel_rfl
theorem Z0x:Zxc Tryz.prog 269=some [.int .u8 0,.str [],.nils]:=by kernel_rfl
theorem Z66:zBD 269 [(0,1),(1,1),(2,1)] [.int .u8 0,.str [],.nils]:=zbd
theorem Z2z:zFA 269 0 (0,false,1):=zfa
theorem Z1z:zFA 269 1 (1,false,1):=zfa
theorem Z0z:zFA 269 2 (2,false,1):=zfa
theorem Ziy:zLD 274 (true,6):=zld
theorem Zeda:Znb Tryz.prog 274=some 6:=by kernel_rfl
theorem Zzx:Zxc Tryz.prog 274=some [.int .u8 0,.int .i64 0,.str [],.int .i64 0,.int .i64 0,.int .i64 0]:=by kernel_rfl
theorem Z56:zBD 274 [(0,1),(1,1),(2,1),(3,1),(4,1),(5,1)] [.int .u8 0,.int .i64 0,.str [],.int .i64 0,.int .i64 0,.int .i64 0]:=zbd
theorem Zzz:zFA 274 0 (0,false,1):=zfa
theorem Zyz:zFA 274 1 (1,false,1):=zfa
theorem Zxz:zFA 274 2 (2,false,1):=zfa
theorem Zwz:zFA 274 3 (3,false,1):=zfa
theorem Zvz:zFA 274 4 (4,false,1):=zfa
theorem Zuz:zFA 274 5 (5,false,1):=zfa
theorem Zqea(a:V)(ik:IntKind)(n:Int):Z3b Tryz.prog 280 a (.int ik n)=idxA 14 1 false a ik n:=Zzh (P:=Tryz.prog) (e:=9) (by kernel_rfl) (by kernel_rfl) (by kernel_rfl) zd a ik n
theorem Z46:zBD 286 [(0,1),(1,1),(2,1)] [.nils,.int .i64 0,.int .i64 0]:=zbd
theorem Ztz:zFA 286 0 (0,false,1):=zfa
theorem Zsz:zFA 286 1 (1,false,1):=zfa
theorem Zrz:zFA 286 2 (2,false,1):=zfa
theorem Z36:zBD 288 [(0,3),(3,1)] [.nils,.int .i64 0,.int .i64 0,.nils]:=zbd
theorem Zqz:zFA 288 0 (0,true,3):=zfa
theorem Zpz:zFA 288 1 (3,false,1):=zfa
theorem Zhy:zLD 291 (true,3):=zld
theorem Zdda:Znb Tryz.prog 291=some 3:=by kernel_rfl
theorem Zyx:Zxc Tryz.prog 291=some [.int .u8 0,.str [],.nils]:=by kernel_rfl
theorem Zoz:zFA 291 0 (0,false,1):=zfa
theorem Znz:zFA 291 1 (1,false,1):=zfa
theorem Zmz:zFA 291 2 (2,true,1):=zfa
theorem Zgy:zLD 307 (false,1):=zld
theorem Z26:zBD 309 [(0,1),(1,1),(2,1),(3,1),(4,1)] [.nils,.int .i64 0,.nils,.int .i64 0,.nilf]:=zbd
theorem Zlz:zFA 309 0 (0,false,1):=zfa
theorem Zkz:zFA 309 1 (1,false,1):=zfa
theorem Zjz:zFA 309 2 (2,false,1):=zfa
theorem Ziz:zFA 309 3 (3,false,1):=zfa
theorem Zhz:zFA 309 4 (4,false,1):=zfa
theorem Zfy:zLD 313 (true,3):=zld
theorem Zcda:Znb Tryz.prog 313=some 3:=by kernel_rfl
theorem Zxx:Zxc Tryz.prog 313=some [.int .u8 0,.int .u8 0,.int .u8 0]:=by kernel_rfl
theorem Z16:zBD 313 [(0,1),(1,1),(2,1)] [.int .u8 0,.int .u8 0,.int .u8 0]:=zbd
theorem Zgz:zFA 313 0 (0,false,1):=zfa
theorem Zfz:zFA 313 1 (1,false,1):=zfa
theorem Zez:zFA 313 2 (2,false,1):=zfa
theorem Zey:zLD 315 (true,4):=zld
theorem Zbda:Znb Tryz.prog 315=some 4:=by kernel_rfl
theorem Zwx:Zxc Tryz.prog 315=some [.int .u8 0,.int .u8 0,.int .u8 0,.int .u8 0]:=by kernel_rfl
theorem Z06:zBD 315 [(0,3),(3,1)] [.int .u8 0,.int .u8 0,.int .u8 0,.int .u8 0]:=zbd
theorem Zdz:zFA 315 0 (0,true,3):=zfa
theorem Zcz:zFA 315 1 (3,false,1):=zfa
theorem Zdy:zLD 316 (true,92):=zld
theorem Zada:Znb Tryz.prog 316=some 92:=by kernel_rfl
theorem Zvx:Zxc Tryz.prog 316=some (.int .u8 0::.int .u8 0::.int .u8 0::.int .u8 0::.int .u8 0::.int .u8 0::.int .u8 0::.int .u8 0::.int .u8 0::.int .u8 0::.int .u8 0::.int .u8 0::.int .u8 0::.int .u8 0::.int .u8 0::.int .u8 0::.int .u8 0::.int .u8 0::.int .u8 0::.int .u8 0::.int .u8 0::.int .u8 0::.int .u8 0::.int .u8 0::.int .u8 0::.int .u8 0::.int .u8 0::.int .u8 0::.int .u8 0::.int .u8 0::.int .u8 0::.int .u8 0::.int .u8 0::.int .u8 0::.int .u8 0::.int .u8 0::.int .u8 0::.int .u8 0::.int .u8 0::.int .u8 0::.int .u8 0::.int .u8 0::.int .u8 0::.int .u8 0::.int .u8 0::.int .u8 0::.int .u8 0::.int .u8 0::.int .u8 0::.int .u8 0::.int .u8 0::.int .u8 0::.int .u8 0::.int .u8 0::.int .u8 0::.int .u8 0::.int .u8 0::.int .u8 0::.int .u8 0::.int .u8 0::.int .u8 0::.int .u8 0::.int .u8 0::.int .u8 0::.int .u8 0::.int .u8 0::.int .u8 0::.int .u8 0::.int .u8 0::.int .u8 0::.int .u8 0::.int .u8 0::.int .u8 0::.int .u8 0::.int .u8 0::.int .u8 0::.int .u8 0::.int .u8 0::.int .u8 0::.int .u8 0::.int .u8 0::.int .u8 0::.int .u8 0::.int .u8 0::.int .u8 0::.int .u8 0::.int .u8 0::.int .u8 0::.int .u8 0::.int .u8 0::.int .u8 0::.int .u8 0::[]):=by kernel_rfl
theorem Zpea(a:V)(ik:IntKind)(n:Int):Z3b Tryz.prog 316 a (.int ik n)=idxA 23 4 true a ik n:=Zzh (P:=Tryz.prog) (e:=315) (by kernel_rfl) (by kernel_rfl) (by kernel_rfl) zd a ik n
theorem Zh7(l:List (Nat×V)):Zag Tryz.prog 316 l=(Zzd (mulP 4) (.int .u8 0::.int .u8 0::.int .u8 0::.int .u8 0::.int .u8 0::.int .u8 0::.int .u8 0::.int .u8 0::.int .u8 0::.int .u8 0::.int .u8 0::.int .u8 0::.int .u8 0::.int .u8 0::.int .u8 0::.int .u8 0::.int .u8 0::.int .u8 0::.int .u8 0::.int .u8 0::.int .u8 0::.int .u8 0::.int .u8 0::.int .u8 0::.int .u8 0::.int .u8 0::.int .u8 0::.int .u8 0::.int .u8 0::.int .u8 0::.int .u8 0::.int .u8 0::.int .u8 0::.int .u8 0::.int .u8 0::.int .u8 0::.int .u8 0::.int .u8 0::.int .u8 0::.int .u8 0::.int .u8 0::.int .u8 0::.int .u8 0::.int .u8 0::.int .u8 0::.int .u8 0::.int .u8 0::.int .u8 0::.int .u8 0::.int .u8 0::.int .u8 0::.int .u8 0::.int .u8 0::.int .u8 0::.int .u8 0::.int .u8 0::.int .u8 0::.int .u8 0::.int .u8 0::.int .u8 0::.int .u8 0::.int .u8 0::.int .u8 0::.int .u8 0::.int .u8 0::.int .u8 0::.int .u8 0::.int .u8 0::.int .u8 0::.int .u8 0::.int .u8 0::.int .u8 0::.int .u8 0::.int .u8 0::.int .u8 0::.int .u8 0::.int .u8 0::.int .u8 0::.int .u8 0::.int .u8 0::.int .u8 0::.int .u8 0::.int .u8 0::.int .u8 0::.int .u8 0::.int .u8 0::.int .u8 0::.int .u8 0::.int .u8 0::.int .u8 0::.int .u8 0::.int .u8 0::[]) l).map .agg:=Z7n (P:=Tryz.prog) (N:=23) (e:=315) (by kernel_rfl) (by kernel_rfl) (by kernel_rfl) l
theorem Zcy:zLD 319 (true,93):=zld
theorem Z9ca:Znb Tryz.prog 319=some 93:=by kernel_rfl
theorem Zbz:zFA 319 0 (0,true,92):=zfa
theorem Zaz:zFA 319 1 (92,false,1):=zfa
theorem Zz6:zBD 330 [(0,1),(1,1),(2,1),(3,1)] [.nils,.int .i64 0,.nils,.int .i64 0]:=zbd
theorem Z9y:zFA 330 0 (0,false,1):=zfa
theorem Z8y:zFA 330 1 (1,false,1):=zfa
theorem Z7y:zFA 330 2 (2,false,1):=zfa
theorem Z6y:zFA 330 3 (3,false,1):=zfa
theorem Zby:zLD 335 (true,3):=zld
theorem Zy6:zBD 335 [(0,1),(1,1),(2,1)] [.str [],.int .i64 0,.int .i64 0]:=zbd
theorem Z5y:zFA 335 0 (0,false,1):=zfa
theorem Z4y:zFA 335 1 (1,false,1):=zfa
theorem Z3y:zFA 335 2 (2,false,1):=zfa
theorem Zay:zLD 336 (true,69):=zld
theorem Z8ca:Znb Tryz.prog 336=some 69:=by kernel_rfl
theorem Zux:Zxc Tryz.prog 336=some (.str []::.int .i64 0::.int .i64 0::.str []::.int .i64 0::.int .i64 0::.str []::.int .i64 0::.int .i64 0::.str []::.int .i64 0::.int .i64 0::.str []::.int .i64 0::.int .i64 0::.str []::.int .i64 0::.int .i64 0::.str []::.int .i64 0::.int .i64 0::.str []::.int .i64 0::.int .i64 0::.str []::.int .i64 0::.int .i64 0::.str []::.int .i64 0::.int .i64 0::.str []::.int .i64 0::.int .i64 0::.str []::.int .i64 0::.int .i64 0::.str []::.int .i64 0::.int .i64 0::.str []::.int .i64 0::.int .i64 0::.str []::.int .i64 0::.int .i64 0::.str []::.int .i64 0::.int .i64 0::.str []::.int .i64 0::.int .i64 0::.str []::.int .i64 0::.int .i64 0::.str []::.int .i64 0::.int .i64 0::.str []::.int .i64 0::.int .i64 0::.str []::.int .i64 0::.int .i64 0::.str []::.int .i64 0::.int .i64 0::.str []::.int .i64 0::.int .i64 0::[]):=by kernel_rfl
theorem Zoea(a:V)(ik:IntKind)(n:Int):Z3b Tryz.prog 336 a (.int ik n)=idxA 23 3 true a ik n:=Zzh (P:=Tryz.prog) (e:=335) (by kernel_rfl) (by kernel_rfl) (by kernel_rfl) zd a ik n
theorem Zg7(l:List (Nat×V)):Zag Tryz.prog 336 l=(Zzd (mulP 3) (.str []::.int .i64 0::.int .i64 0::.str []::.int .i64 0::.int .i64 0::.str []::.int .i64 0::.int .i64 0::.str []::.int .i64 0::.int .i64 0::.str []::.int .i64 0::.int .i64 0::.str []::.int .i64 0::.int .i64 0::.str []::.int .i64 0::.int .i64 0::.str []::.int .i64 0::.int .i64 0::.str []::.int .i64 0::.int .i64 0::.str []::.int .i64 0::.int .i64 0::.str []::.int .i64 0::.int .i64 0::.str []::.int .i64 0::.int .i64 0::.str []::.int .i64 0::.int .i64 0::.str []::.int .i64 0::.int .i64 0::.str []::.int .i64 0::.int .i64 0::.str []::.int .i64 0::.int .i64 0::.str []::.int .i64 0::.int .i64 0::.str []::.int .i64 0::.int .i64 0::.str []::.int .i64 0::.int .i64 0::.str []::.int .i64 0::.int .i64 0::.str []::.int .i64 0::.int .i64 0::.str []::.int .i64 0::.int .i64 0::.str []::.int .i64 0::.int .i64 0::[]) l).map .agg:=Z7n (P:=Tryz.prog) (N:=23) (e:=335) (by kernel_rfl) (by kernel_rfl) (by kernel_rfl) l
attribute[go_sem]Z24 Zo4 Zrda Zyea Zu0 Zny Zjda Z3x Za7 Zf0 Ze0 Zd0 Zmy Zida Z2x Z96 Zc0 Zb0 Za0 Z9z Z8z Z7z Zly Zhda Z14 Zn4 Zxea Zt0 Zky Zgda Z1x Z86 Z6z Z76 Z5z Z4z Z3z Zjy Zfda Z0x Z66 Z2z Z1z Z0z Ziy Zeda Zzx Z56 Zzz Zyz Zxz Zwz Zvz Zuz Zqea Z46 Ztz Zsz Zrz Z36 Zqz Zpz Zhy Zdda Zyx Zoz Znz Zmz Zgy Z26 Zlz Zkz Zjz Ziz Zhz Zfy Zcda Zxx Z16 Zgz Zfz Zez Zey Zbda Zwx Z06 Zdz Zcz Zdy Zada Zvx Zpea Zh7 Zcy Z9ca Zbz Zaz Zz6 Z9y Z8y Z7y Z6y Zby Zy6 Z5y Z4y Z3y Zay Z8ca Zux Zoea Zg7
theorem Zp0:Z9f Tryz.prog 343=some 2:=by kernel_rfl
theorem Z04:zIX 343 2:=zix
theorem Zm4:zLN 343:=zln (m:=2)
theorem Zqda(a:V)(lo hi:Option V):Zaf Tryz.prog 343 a lo hi none=slK 2 a lo hi:=Zgi Zp0 a lo hi
theorem Zwea:zBS 343 2 [.int .i64 0,.int .i64 0]:=zbs (e:=346)
theorem Zs0:zAC [343,343] 2 16:=zac
theorem Z9x:zLD 346 (true,2):=zld
theorem Z7ca:Znb Tryz.prog 346=some 2:=by kernel_rfl
theorem Ztx:Zxc Tryz.prog 346=some [.int .i64 0,.int .i64 0]:=by kernel_rfl
theorem Zx6:zBD 346 [(0,1),(1,1)] [.int .i64 0,.int .i64 0]:=zbd
theorem Z2y:zFA 346 0 (0,false,1):=zfa
theorem Z1y:zFA 346 1 (1,false,1):=zfa
theorem Zz4:zIX 359 3:=zix
theorem Zl4:zLN 359:=zln (m:=3)
theorem Zaea(l:List V)(ik:IntKind)(n:Int):Zyh Tryz.prog 370 (.agg l) (.int ik n)=if 0<=n/\n<(3:Nat)then Zvl false 1 l (n.toNat*1)else none:=Z68 (P:=Tryz.prog) (e:=9) (by kernel_rfl) (by kernel_rfl) (by kernel_rfl) zd l ik n
theorem Zf7(l:List (Nat×V)):Zag Tryz.prog 370 l=(Zzd (mulP 1) [.str [],.str [],.str []] l).map .agg:=Z7n (P:=Tryz.prog) (N:=3) (e:=9) (by kernel_rfl) (by kernel_rfl) (by kernel_rfl) l
theorem Z8x:zLD 385 (true,2):=zld
theorem Zw6:zBD 385 [(0,1),(1,1)] [.nils,.bool false]:=zbd
theorem Z0y:zFA 385 0 (0,false,1):=zfa
theorem Zzy:zFA 385 1 (1,false,1):=zfa
theorem Zvea(k:IntKind)(n:Int):Z8w Tryz.prog 3 5 (.int k n)=some (.int .u8 (IntKind.wrap .u8 n)):=Zf9 (P:=Tryz.prog) (s:=3) (d:=5) (by kernel_rfl) (by kernel_rfl) k n
theorem Zuea(k:IntKind)(n:Int):Z8w Tryz.prog 5 3 (.int k n)=some (.int .i64 (IntKind.wrap .i64 n)):=Zf9 (P:=Tryz.prog) (s:=5) (d:=3) (by kernel_rfl) (by kernel_rfl) k n
attribute[go_sem]Z04 Zm4 Zqda Zwea Zs0 Z9x Z7ca Ztx Zx6 Z2y Z1y Zz4 Zl4 Zaea Zf7 Z8x Zw6 Z0y Zzy Zvea Zuea
end Go.Hs
