/- A part. No condition. -/
import Derived.Test.YtoahejkahaimnaaGreatDoorP17
import Derived.Test.YtoahejkahaimnaaGreatDoorProg
set_option linter.all false
namespace Go.Hs
open Go.Proofs
abbrev zFA(t n:Nat)(x:Nat×Bool×Nat):Prop:=∀ a,Td Tryz.prog t a n=Zd2 (some x) a
theorem Wz{t n:Nat}{x:Nat×Bool×Nat}(h:Zc2 Tryz.prog t n=some x:=by kernel_rfl):zFA t n x:=λa=>Z9a h a
abbrev zLD(t:Nat)(x:Bool×Nat):Prop:=∀ (H:Heap) (a:V),Xt Tryz.prog H t a=Tz (some x) (Znv H a) a
theorem Ra{t n:Nat}{b:Bool}(h:Zfa Tryz.prog t=some (b,n):=by kernel_rfl):zLD t (b,n):=λH a=>Zq4 h H a
abbrev zIX(t m:Nat):Prop:=∀ a i:V,Wt Tryz.prog t a i=Z1g (some m) a i
theorem Av{t m:Nat}(h:T5 Tryz.prog t=some m:=by kernel_rfl):zIX t m:=λa i=>Z3a h a i
abbrev zLN(t:Nat):Prop:=∀ a:V,Gl Tryz.prog t a=Iw true a
theorem Au{t m:Nat}(h:T5 Tryz.prog t=some m:=by kernel_rfl):zLN t:=λa=>Zso h a
abbrev zAC(l:List Nat)(m b:Nat):Prop:=∀ (E:Ent) (ops:Array Oper) (Q:AS->Prop) (rest:List Oper) (e:Nat) (τ : Nat->V) (H:Heap) (x y:V),Zb6 Tryz.prog E ops Q rest e τ H l x y=Gn Tryz.prog E ops Q rest e τ H m b x (Ug H m y) (obS H x)
theorem zac{l:List Nat}{m b:Nat}(h:Zc3 Tryz.prog l=some (m,b):=by kernel_rfl):zAC l m b:=λE ops Q rest e τ H x y=>appC_E ops h e x y
abbrev zBD(t:Nat)(T:List (Nat×Nat))(Z:List V):Prop:=∀ l:List (Nat×V),Tf Tryz.prog t l=(Vh (A9 T) Z l).map .agg
theorem Gz{t:Nat}{T:List (Nat×Nat)}{Z:List V}(h:Znz Tryz.prog t=some T:=by kernel_rfl)(a:Ua Tryz.prog t=some (.agg Z):=by kernel_rfl):zBD t T Z:=λl=>Zwh h a l
abbrev zBS(t m:Nat)(Z:List V):Prop:=∀ (n:Nat) (l:List (Nat×V)),Jn Tryz.prog t n l=bsK m Z n l
theorem zbs{t m e:Nat}{Z:List V}(h:Tryz.prog.underlying t=some (.slice e):=by kernel_rfl)(c:Yp Tryz.prog e=some m:=by kernel_rfl)(b:X7 Tryz.prog e=some Z:=by kernel_rfl)(a:Z.length=m:=by rfl):zBS t m Z:=λn l=>Zkx h c b a n l
theorem Z4q:zLD 2 (false,1):=Ra
theorem Z3q:zLD 3 (false,1):=Ra
theorem Zl3:Yp Tryz.prog 3=some 1:=zk
theorem Zdq:X7 Tryz.prog 3=some [.int .i64 0]:=zk
theorem Z2q:zLD 4 (false,1):=Ra
theorem Zk3:Yp Tryz.prog 4=some 1:=zk
theorem Zcq:X7 Tryz.prog 4=some [.bool false]:=zk
theorem Z1q:zLD 5 (false,1):=Ra
theorem Zj3:Yp Tryz.prog 5=some 1:=zk
theorem Z0q:zLD 9 (false,1):=Ra
theorem Zi3:Yp Tryz.prog 9=some 1:=zk
attribute[go_sem]Z4q Z3q Zl3 Zdq Z2q Zk3 Zcq Z1q Zj3 Z0q Zi3
theorem Hc:E9 Tryz.prog 9=true:=zk
theorem Zky(a:V):Gl Tryz.prog 9 a=Iw false a:=Zp1 Hc a
theorem Zly(s:List UInt8)(k:IntKind)(n:Int):R2 Tryz.prog 9 (.str s) (.int k n)=if 0<=n then(s[n.toNat]?).map λb=>.int .u8 b.toNat else none:=Zzo Hc s k n
theorem Zay(s:List UInt8)(lo hi:Option V):Uh Tryz.prog 9 (.str s) lo hi none=slJ (Yj 0 lo) (Yj s.length hi) λi j=>if i<=j/\j<=s.length then some (.str ((s.drop i).take (j-i)))else none:=Z7m Hc s lo hi
theorem Zfj:zLD 22 (false,1):=Ra
attribute[go_sem]Zky Zly Zay Zfj
theorem Zal:T5 Tryz.prog 22=some 2:=zk
theorem Zsr:zIX 22 2:=Av
theorem Zfr:zLN 22:=Au (m:=2)
theorem Zey(a:V)(lo hi:Option V):Uh Tryz.prog 22 a lo hi none=slK 2 a lo hi:=Q5 Zal a lo hi
theorem Zej:zLD 23 (false,1):=Ra
theorem Z9x:Yp Tryz.prog 23=some 1:=zk
attribute[go_sem]Zsr Zfr Zey Zej Z9x
theorem Zhy:Ro Tryz.prog 23=2:=zk
@[go_sem] theorem Tryz.eqn23(a:V):Rp Tryz.prog .eql 23 a .nils=(Is 2 a).map .bool:=(Nz _ _ Zhy zS a).1
theorem Z9k:T5 Tryz.prog 23=some 1:=zk
theorem Zrr:zIX 23 1:=Av
theorem Zer:zLN 23:=Au (m:=1)
theorem Zdy(a:V)(lo hi:Option V):Uh Tryz.prog 23 a lo hi none=slK 1 a lo hi:=Q5 Z9k a lo hi
theorem Zvy:zBS 23 1 [.str []]:=zbs (e:=9)
theorem Z0l:zAC [23,23] 1 16:=zac
theorem Zdj:zLD 24 (false,1):=Ra
theorem Zqr:zIX 24 2:=Av
theorem Zdr:zLN 24:=Au (m:=2)
theorem Zuy:zBS 24 2 [.str [],.int .i64 0]:=zbs (e:=79)
theorem Zcj:zLD 25 (false,1):=Ra
theorem Z8x:Yp Tryz.prog 25=some 1:=zk
theorem Zpr:zIX 25 8:=Av
theorem Zcr:zLN 25:=Au (m:=8)
theorem Zty:zBS 25 8 [.str [],.int .u8 0,.int .i64 0,.int .i64 0,.str [],.str [],.nils,.str []]:=zbs (e:=60)
theorem Zzl:zAC [25,25] 8 112:=zac
theorem Zbj:zLD 26 (false,1):=Ra
theorem Z7x:Yp Tryz.prog 26=some 1:=zk
theorem Zor:zIX 26 8:=Av
theorem Zbr:zLN 26:=Au (m:=8)
theorem Zsy:zBS 26 8 [.str [],.int .i64 0,.int .i64 0,.nils,.int .i64 0,.str [],.str [],.int .u8 0]:=zbs (e:=62)
theorem Zyl:zAC [26,26] 8 104:=zac
theorem Zaj:zLD 28 (true,6):=Ra
theorem Z6x:Yp Tryz.prog 28=some 6:=zk
theorem Zui:X7 Tryz.prog 28=some [.str [],.nils,.nils,.nils,.nils,.nils]:=zk
theorem Zbs:zBD 28 [(0,1),(1,1),(2,1),(3,1),(4,1),(5,1)] [.str [],.nils,.nils,.nils,.nils,.nils]:=Gz
theorem Z6k:zFA 28 0 (0,false,1):=Wz
theorem Z5k:zFA 28 1 (1,false,1):=Wz
theorem Z4k:zFA 28 2 (2,false,1):=Wz
theorem Z3k:zFA 28 3 (3,false,1):=Wz
theorem Z2k:zFA 28 4 (4,false,1):=Wz
theorem Z1k:zFA 28 5 (5,false,1):=Wz
theorem Z9i:zLD 32 (false,1):=Ra
theorem Z5x:Yp Tryz.prog 32=some 1:=zk
theorem Zti:X7 Tryz.prog 32=some [.int .i64 0]:=zk
theorem Z8i:zLD 42 (false,1):=Ra
theorem Z4x:Yp Tryz.prog 42=some 1:=zk
theorem Zsi:X7 Tryz.prog 42=some [.nils]:=zk
theorem Znr:zIX 42 6:=Av
theorem Zar:zLN 42:=Au (m:=6)
theorem Zry:zBS 42 6 [.nils,.int .i64 0,.nils,.nils,.nils,.nils]:=zbs (e:=49)
theorem Zxl:zAC [42,42] 6 128:=zac
theorem Z7i:zLD 45 (false,1):=Ra
theorem Z3x:Yp Tryz.prog 45=some 1:=zk
theorem Zri:X7 Tryz.prog 45=some [.nils]:=zk
attribute[go_sem]Zrr Zer Zdy Zvy Z0l Zdj Zqr Zdr Zuy Zcj Z8x Zpr Zcr Zty Zzl Zbj Z7x Zor Zbr Zsy Zyl Zaj Z6x Zui Zbs Z6k Z5k Z4k Z3k Z2k Z1k Z9i Z5x Zti Z8i Z4x Zsi Znr Zar Zry Zxl Z7i Z3x Zri
theorem Ap:Ro Tryz.prog 45=2:=zk
@[go_sem] theorem Tryz.eqn45(a:V):Rp Tryz.prog .eql 45 a .nils=(Is 2 a).map .bool:=(Nz _ _ Ap zS a).1
@[go_sem] theorem Tryz.nen45(a:V):Rp Tryz.prog .neq 45 a .nils=(Is 2 a).map λr=>.bool (!r):=(Nz _ _ Ap zS a).2
theorem Z8k:T5 Tryz.prog 45=some 1:=zk
theorem Zmr:zIX 45 1:=Av
theorem Z9q:zLN 45:=Au (m:=1)
theorem Zcy(a:V)(lo hi:Option V):Uh Tryz.prog 45 a lo hi none=slK 1 a lo hi:=Q5 Z8k a lo hi
theorem Zqy:zBS 45 1 [.int .i64 0]:=zbs (e:=3)
theorem Zwl:zAC [45,45] 1 8:=zac
theorem Z6i:zLD 47 (false,1):=Ra
theorem Z2x:Yp Tryz.prog 47=some 1:=zk
attribute[go_sem]Zmr Z9q Zcy Zqy Zwl Z6i Z2x
theorem Zgy:Ro Tryz.prog 47=2:=zk
@[go_sem] theorem Tryz.eqn47(a:V):Rp Tryz.prog .eql 47 a .nils=(Is 2 a).map .bool:=(Nz _ _ Zgy zS a).1
theorem Z7k:T5 Tryz.prog 47=some 2:=zk
theorem Zlr:zIX 47 2:=Av
theorem Z8q:zLN 47:=Au (m:=2)
theorem Zby(a:V)(lo hi:Option V):Uh Tryz.prog 47 a lo hi none=slK 2 a lo hi:=Q5 Z7k a lo hi
theorem Zpy:zBS 47 2 [.int .i64 0,.nils]:=zbs (e:=64)
theorem Zvl:zAC [47,47] 2 32:=zac
theorem Z5i:zLD 49 (true,6):=Ra
theorem Z1x:Yp Tryz.prog 49=some 6:=zk
theorem Zqi:X7 Tryz.prog 49=some [.nils,.int .i64 0,.nils,.nils,.nils,.nils]:=zk
theorem Zas:zBD 49 [(0,1),(1,1),(2,1),(3,1),(4,1),(5,1)] [.nils,.int .i64 0,.nils,.nils,.nils,.nils]:=Gz
theorem Z0k:zFA 49 0 (0,false,1):=Wz
theorem Zzk:zFA 49 1 (1,false,1):=Wz
theorem Zyk:zFA 49 2 (2,false,1):=Wz
theorem Zxk:zFA 49 3 (3,false,1):=Wz
theorem Zwk:zFA 49 4 (4,false,1):=Wz
theorem Zvk:zFA 49 5 (5,false,1):=Wz
theorem Z4i:zLD 50 (false,1):=Ra
theorem Zkr:zIX 50 2:=Av
theorem Z7q:zLN 50:=Au (m:=2)
theorem Zoy:zBS 50 2 [.int .i64 0,.nils]:=zbs (e:=66)
theorem Z9r:zBD 52 [(0,1),(1,1),(2,1),(3,1),(4,1),(5,1),(6,1)] [.nils,.int .i64 0,.nils,.nils,.nils,.nils,.bool false]:=Gz
theorem Zuk:zFA 52 0 (0,false,1):=Wz
theorem Ztk:zFA 52 1 (1,false,1):=Wz
theorem Zsk:zFA 52 2 (2,false,1):=Wz
theorem Zrk:zFA 52 3 (3,false,1):=Wz
theorem Zqk:zFA 52 4 (4,false,1):=Wz
theorem Zpk:zFA 52 5 (5,false,1):=Wz
theorem Zjr:zIX 57 1:=Av
theorem Zjy(a b:V):Oa Tryz.prog 57 a b=msK 1 1 [.bool false] a b:=Iu (P:=Tryz.prog) (t:=57) (e:=4) (E:=1) (bytes:=1) (z:=[.bool false]) zk zk zk zk rfl a b
theorem Z3i:zLD 60 (true,8):=Ra
theorem Z0x:Yp Tryz.prog 60=some 8:=zk
theorem Zpi:X7 Tryz.prog 60=some [.str [],.int .u8 0,.int .i64 0,.int .i64 0,.str [],.str [],.nils,.str []]:=zk
theorem Z8r:zBD 60 [(0,1),(1,1),(2,1),(3,1),(4,1),(5,1),(6,1),(7,1)] [.str [],.int .u8 0,.int .i64 0,.int .i64 0,.str [],.str [],.nils,.str []]:=Gz
theorem Zok:zFA 60 0 (0,false,1):=Wz
theorem Znk:zFA 60 1 (1,false,1):=Wz
theorem Zmk:zFA 60 2 (2,false,1):=Wz
theorem Zlk:zFA 60 3 (3,false,1):=Wz
theorem Zkk:zFA 60 4 (4,false,1):=Wz
theorem Zjk:zFA 60 5 (5,false,1):=Wz
theorem Zik:zFA 60 6 (6,false,1):=Wz
theorem Zhk:zFA 60 7 (7,false,1):=Wz
theorem Z2i:zLD 62 (true,8):=Ra
theorem Zzx:Yp Tryz.prog 62=some 8:=zk
theorem Zoi:X7 Tryz.prog 62=some [.str [],.int .i64 0,.int .i64 0,.nils,.int .i64 0,.str [],.str [],.int .u8 0]:=zk
theorem Z7r:zBD 62 [(0,1),(1,1),(2,1),(3,1),(4,1),(5,1),(6,1),(7,1)] [.str [],.int .i64 0,.int .i64 0,.nils,.int .i64 0,.str [],.str [],.int .u8 0]:=Gz
theorem Zgk:zFA 62 0 (0,false,1):=Wz
theorem Zfk:zFA 62 1 (1,false,1):=Wz
theorem Zek:zFA 62 2 (2,false,1):=Wz
theorem Zdk:zFA 62 3 (3,false,1):=Wz
theorem Zck:zFA 62 4 (4,false,1):=Wz
theorem Zbk:zFA 62 5 (5,false,1):=Wz
theorem Zak:zFA 62 6 (6,false,1):=Wz
theorem Z9j:zFA 62 7 (7,false,1):=Wz
theorem Z1i:zLD 64 (true,2):=Ra
theorem Zyx:Yp Tryz.prog 64=some 2:=zk
theorem Zni:X7 Tryz.prog 64=some [.int .i64 0,.nils]:=zk
theorem Z6r:zBD 64 [(0,1),(1,1)] [.int .i64 0,.nils]:=Gz
theorem Z8j:zFA 64 0 (0,false,1):=Wz
theorem Z7j:zFA 64 1 (1,false,1):=Wz
theorem Z5r:zBD 66 [(0,1),(1,1)] [.int .i64 0,.nils]:=Gz
theorem Z6j:zFA 66 0 (0,false,1):=Wz
theorem Z5j:zFA 66 1 (1,false,1):=Wz
theorem Z0i:zLD 76 (true,2):=Ra
theorem Zxx:Yp Tryz.prog 76=some 2:=zk
theorem Zmi:X7 Tryz.prog 76=some [.str [],.int .i64 0]:=zk
theorem Z4j:zFA 76 0 (0,false,1):=Wz
theorem Zzi:zLD 79 (true,2):=Ra
theorem Zwx:Yp Tryz.prog 79=some 2:=zk
theorem Zli:X7 Tryz.prog 79=some [.str [],.int .i64 0]:=zk
theorem Z4r:zBD 79 [(0,1),(1,1)] [.str [],.int .i64 0]:=Gz
theorem Z3j:zFA 79 0 (0,false,1):=Wz
theorem Z2j:zFA 79 1 (1,false,1):=Wz
theorem Z6q:zLN 83:=Au (m:=2)
theorem Zny:zBS 83 2 [.int .u8 0,.int .i64 0]:=zbs (e:=125)
theorem Zul:zAC [83,83] 2 16:=zac
theorem Zyi:zLD 86 (false,1):=Ra
theorem Zvx:Yp Tryz.prog 86=some 1:=zk
theorem Zki:X7 Tryz.prog 86=some [.nilp]:=zk
attribute[go_sem]Zlr Z8q Zby Zpy Zvl Z5i Z1x Zqi Zas Z0k Zzk Zyk Zxk Zwk Zvk Z4i Zkr Z7q Zoy Z9r Zuk Ztk Zsk Zrk Zqk Zpk Zjr Zjy Z3i Z0x Zpi Z8r Zok Znk Zmk Zlk Zkk Zjk Zik Zhk Z2i Zzx Zoi Z7r Zgk Zfk Zek Zdk Zck Zbk Zak Z9j Z1i Zyx Zni Z6r Z8j Z7j Z5r Z6j Z5j Z0i Zxx Zmi Z4j Zzi Zwx Zli Z4r Z3j Z2j Z6q Zny Zul Zyi Zvx Zki
theorem Zfy:Ro Tryz.prog 86=1:=zk
theorem Zyq(a:V):Rp Tryz.prog .neq 86 a .nilp=(Is 1 a).map λr=>.bool (!r):=(Nz _ _ Zfy zS a).2
theorem Zxi:zLD 89 (false,1):=Ra
theorem Zux:Yp Tryz.prog 89=some 1:=zk
theorem Zji:X7 Tryz.prog 89=some [.nilp]:=zk
theorem Z3r:zBD 91 [(0,6),(6,1)] [.str [],.nils,.nils,.nils,.nils,.nils,.nilp]:=Gz
theorem Z1j:zFA 91 0 (0,true,6):=Wz
theorem Z0j:zFA 91 1 (6,false,1):=Wz
theorem Zwi:zLD 97 (false,1):=Ra
theorem Zvi:zLD 99 (false,1):=Ra
theorem Zir:zIX 99 1:=Av
theorem Z5q:zLN 99:=Au (m:=1)
theorem Zmy:zBS 99 1 [.nils]:=zbs (e:=45)
theorem Ziy(a b:V):Oa Tryz.prog 99 a b=msK 1 24 [.nils] a b:=Iu (P:=Tryz.prog) (t:=99) (e:=45) (E:=1) (bytes:=24) (z:=[.nils]) zk zk zk zk rfl a b
theorem Ztc:zLD 120 (false,1):=Ra
theorem Zsc:zLD 123 (true,16):=Ra
theorem Zvq:Yp Tryz.prog 123=some 16:=zk
theorem Z3b:X7 Tryz.prog 123=some [.nilf,.nilf,.nilf,.nilf,.nilf,.nilf,.nilf,.nilf,.nilf,.nilf,.nilf,.nilf,.nilf,.nilf,.nilf,.nilf]:=zk
theorem Zhr(l:List V)(a:IntKind)(n:Int):R2 Tryz.prog 123 (.agg l) (.int a n)=if 0<=n/\n<(16:Nat)then Q8 false 1 l (n.toNat*1)else none:=Z0g (P:=Tryz.prog) (e:=122) zk zk zk zd l a n
theorem Ztl(l:List (Nat×V)):Tf Tryz.prog 123 l=(Vh (Zrg 1) [.nilf,.nilf,.nilf,.nilf,.nilf,.nilf,.nilf,.nilf,.nilf,.nilf,.nilf,.nilf,.nilf,.nilf,.nilf,.nilf] l).map .agg:=Jm (P:=Tryz.prog) (N:=16) (e:=122) zk zk zk l
theorem Zpl:zBD 125 [(0,1),(1,1)] [.int .u8 0,.int .i64 0]:=Gz
theorem Zrc:zLD 126 (false,1):=Ra
theorem Zzj:zIX 126 7:=Av
theorem Znj:zLN 126:=Au (m:=7)
theorem Zzq(a b:V):Oa Tryz.prog 126 a b=msK 7 80 [.int .i64 0,.int .i64 0,.int .i64 0,.bool false,.bool false,.nils,.nils] a b:=Iu (P:=Tryz.prog) (t:=126) (e:=132) (E:=7) (bytes:=80) (z:=[.int .i64 0,.int .i64 0,.int .i64 0,.bool false,.bool false,.nils,.nils]) zk zk zk zk rfl a b
theorem Zqc:zLD 127 (false,1):=Ra
theorem Zol:zBD 129 [(0,1),(1,1),(2,1),(3,1)] [.nils,.nils,.nilm,.nilm]:=Gz
theorem Zae:zFA 129 0 (0,false,1):=Wz
theorem Z9d:zFA 129 1 (1,false,1):=Wz
theorem Z8d:zFA 129 2 (2,false,1):=Wz
theorem Z7d:zFA 129 3 (3,false,1):=Wz
theorem Z6d:zFA 132 0 (0,false,1):=Wz
theorem Z5d:zFA 132 1 (1,false,1):=Wz
theorem Z4d:zFA 132 2 (2,false,1):=Wz
theorem Z3d:zFA 132 3 (3,false,1):=Wz
theorem Z2d:zFA 132 4 (4,false,1):=Wz
theorem Z1d:zFA 132 5 (5,false,1):=Wz
theorem Z0d:zFA 132 6 (6,false,1):=Wz
theorem Zpc:zLD 138 (false,1):=Ra
theorem Zuq:Yp Tryz.prog 138=some 1:=zk
theorem Z2b:X7 Tryz.prog 138=some [.nilm]:=zk
theorem Ztq:Yp Tryz.prog 139=some 0:=zk
theorem Z1b:X7 Tryz.prog 139=some []:=zk
theorem Zoc:zLD 144 (false,1):=Ra
theorem Zsq:Yp Tryz.prog 144=some 1:=zk
theorem Z0b:X7 Tryz.prog 144=some [.nilf]:=zk
theorem Znc:zLD 146 (false,1):=Ra
theorem Zyj:zIX 146 1:=Av
theorem Zmj:zLN 146:=Au (m:=1)
theorem Z2r:zBS 146 1 [.int .u8 0]:=zbs (e:=5)
theorem Zhe:zAC [146,146] 1 1:=zac
theorem Zmc:zLD 154 (true,3):=Ra
theorem Zrq:Yp Tryz.prog 154=some 3:=zk
theorem Zzb:X7 Tryz.prog 154=some [.int .u8 0,.int .i64 0,.int .i64 0]:=zk
theorem Znl:zBD 154 [(0,1),(1,1),(2,1)] [.int .u8 0,.int .i64 0,.int .i64 0]:=Gz
theorem Zzd:zFA 154 0 (0,false,1):=Wz
theorem Zyd:zFA 154 1 (1,false,1):=Wz
theorem Zxd:zFA 154 2 (2,false,1):=Wz
theorem Zlc:zLD 156 (false,1):=Ra
theorem Zml:zBD 158 [(0,6),(6,1),(7,1)] [.str [],.nils,.nils,.nils,.nils,.nils,.nils,.nils]:=Gz
theorem Zwd:zFA 158 0 (0,true,6):=Wz
theorem Zvd:zFA 158 1 (6,false,1):=Wz
theorem Zud:zFA 158 2 (7,false,1):=Wz
theorem Zkc:zLD 167 (false,1):=Ra
theorem Zxj:zIX 181 1:=Av
theorem Zlj:zLN 181:=Au (m:=1)
theorem Z1r:zBS 181 1 [.nilf]:=zbs (e:=156)
theorem Zjc:zLD 197 (false,1):=Ra
theorem Zqq:Yp Tryz.prog 197=some 1:=zk
theorem Zwj:zIX 197 6:=Av
theorem Zkj:zLN 197:=Au (m:=6)
theorem Z0r:zBS 197 6 [.int .u8 0,.int .i64 0,.str [],.int .i64 0,.int .i64 0,.int .i64 0]:=zbs (e:=240)
theorem Zge:zAC [197,197] 6 56:=zac
theorem Zic:zLD 199 (true,1):=Ra
theorem Zpq:Yp Tryz.prog 199=some 1:=zk
theorem Zyb:X7 Tryz.prog 199=some [.nils]:=zk
theorem Zll:zBD 199 [(0,1)] [.nils]:=Gz
theorem Ztd:zFA 199 0 (0,false,1):=Wz
theorem Zhc:zLD 202 (false,1):=Ra
attribute[go_sem]Zyq Zxi Zux Zji Z3r Z1j Z0j Zwi Zvi Zir Z5q Zmy Ziy Ztc Zsc Zvq Z3b Zhr Ztl Zpl Zrc Zzj Znj Zzq Zqc Zol Zae Z9d Z8d Z7d Z6d Z5d Z4d Z3d Z2d Z1d Z0d Zpc Zuq Z2b Ztq Z1b Zoc Zsq Z0b Znc Zyj Zmj Z2r Zhe Zmc Zrq Zzb Znl Zzd Zyd Zxd Zlc Zml Zwd Zvd Zud Zkc Zxj Zlj Z1r Zjc Zqq Zwj Zkj Z0r Zge Zic Zpq Zyb Zll Ztd Zhc
theorem Zce:T5 Tryz.prog 202=some 3:=zk
theorem Zvj:zIX 202 3:=Av
theorem Zjj:zLN 202:=Au (m:=3)
theorem Zxq(a:V)(lo hi:Option V):Uh Tryz.prog 202 a lo hi none=slK 3 a lo hi:=Q5 Zce a lo hi
theorem Zzr:zBS 202 3 [.int .u8 0,.str [],.int .i64 0]:=zbs (e:=238)
theorem Zfe:zAC [202,202] 3 32:=zac
theorem Zgc:zLD 238 (true,3):=Ra
theorem Zoq:Yp Tryz.prog 238=some 3:=zk
theorem Zxb:X7 Tryz.prog 238=some [.int .u8 0,.str [],.int .i64 0]:=zk
theorem Zkl:zBD 238 [(0,1),(1,1),(2,1)] [.int .u8 0,.str [],.int .i64 0]:=Gz
theorem Zsd:zFA 238 0 (0,false,1):=Wz
theorem Zrd:zFA 238 1 (1,false,1):=Wz
theorem Zqd:zFA 238 2 (2,false,1):=Wz
theorem Zfc:zLD 240 (true,6):=Ra
theorem Znq:Yp Tryz.prog 240=some 6:=zk
theorem Zwb:X7 Tryz.prog 240=some [.int .u8 0,.int .i64 0,.str [],.int .i64 0,.int .i64 0,.int .i64 0]:=zk
theorem Zjl:zBD 240 [(0,1),(1,1),(2,1),(3,1),(4,1),(5,1)] [.int .u8 0,.int .i64 0,.str [],.int .i64 0,.int .i64 0,.int .i64 0]:=Gz
theorem Zpd:zFA 240 0 (0,false,1):=Wz
theorem Zod:zFA 240 1 (1,false,1):=Wz
theorem Znd:zFA 240 2 (2,false,1):=Wz
theorem Zmd:zFA 240 3 (3,false,1):=Wz
theorem Zld:zFA 240 4 (4,false,1):=Wz
theorem Zkd:zFA 240 5 (5,false,1):=Wz
theorem Zec:zLD 244 (false,1):=Ra
theorem Zmq:Yp Tryz.prog 244=some 1:=zk
theorem Zuj:zIX 244 3:=Av
theorem Zij:zLN 244:=Au (m:=3)
theorem Zyr:zBS 244 3 [.int .u8 0,.str [],.nils]:=zbs (e:=282)
theorem Zee:zAC [244,244] 3 48:=zac
theorem Zdc:zLD 246 (true,1):=Ra
theorem Zlq:Yp Tryz.prog 246=some 1:=zk
theorem Zvb:X7 Tryz.prog 246=some [.nils]:=zk
theorem Zil:zBD 246 [(0,1)] [.nils]:=Gz
theorem Zjd:zFA 246 0 (0,false,1):=Wz
theorem Zvr(a:V)(b:IntKind)(n:Int):Wt Tryz.prog 271 a (.int b n)=Z5o 14 1 false a b n:=Og (P:=Tryz.prog) (e:=9) zk zk zk zd a b n
theorem Zhl:zBD 277 [(0,1),(1,1),(2,1)] [.nils,.int .i64 0,.int .i64 0]:=Gz
theorem Zid:zFA 277 0 (0,false,1):=Wz
theorem Zhd:zFA 277 1 (1,false,1):=Wz
theorem Zgd:zFA 277 2 (2,false,1):=Wz
theorem Zgl:zBD 279 [(0,3),(3,1)] [.nils,.int .i64 0,.int .i64 0,.nils]:=Gz
theorem Zfd:zFA 279 0 (0,true,3):=Wz
theorem Zed:zFA 279 1 (3,false,1):=Wz
theorem Zcc:zLD 282 (true,3):=Ra
theorem Zkq:Yp Tryz.prog 282=some 3:=zk
theorem Zub:X7 Tryz.prog 282=some [.int .u8 0,.str [],.nils]:=zk
theorem Zdd:zFA 282 0 (0,false,1):=Wz
theorem Zcd:zFA 282 1 (1,false,1):=Wz
theorem Zbd:zFA 282 2 (2,true,1):=Wz
theorem Zbc:zLD 294 (false,1):=Ra
theorem Zfl:zBD 296 [(0,1),(1,1),(2,1),(3,1),(4,1)] [.nils,.int .i64 0,.nils,.int .i64 0,.nilf]:=Gz
theorem Zad:zFA 296 0 (0,false,1):=Wz
theorem Z9c:zFA 296 1 (1,false,1):=Wz
theorem Z8c:zFA 296 2 (2,false,1):=Wz
theorem Z7c:zFA 296 3 (3,false,1):=Wz
theorem Z6c:zFA 296 4 (4,false,1):=Wz
theorem Zac:zLD 300 (true,3):=Ra
theorem Zjq:Yp Tryz.prog 300=some 3:=zk
theorem Ztb:X7 Tryz.prog 300=some [.int .u8 0,.int .u8 0,.int .u8 0]:=zk
theorem Zel:zBD 300 [(0,1),(1,1),(2,1)] [.int .u8 0,.int .u8 0,.int .u8 0]:=Gz
theorem Z5c:zFA 300 0 (0,false,1):=Wz
theorem Z4c:zFA 300 1 (1,false,1):=Wz
theorem Z3c:zFA 300 2 (2,false,1):=Wz
theorem Z9b:zLD 302 (true,4):=Ra
theorem Ziq:Yp Tryz.prog 302=some 4:=zk
theorem Zsb:X7 Tryz.prog 302=some [.int .u8 0,.int .u8 0,.int .u8 0,.int .u8 0]:=zk
theorem Zdl:zBD 302 [(0,3),(3,1)] [.int .u8 0,.int .u8 0,.int .u8 0,.int .u8 0]:=Gz
theorem Z2c:zFA 302 0 (0,true,3):=Wz
theorem Z1c:zFA 302 1 (3,false,1):=Wz
theorem Z8b:zLD 303 (true,92):=Ra
theorem Zhq:Yp Tryz.prog 303=some 92:=zk
theorem Zrb:X7 Tryz.prog 303=some (List.replicate 92 (.int .u8 0)):=zk
theorem Zur(a:V)(b:IntKind)(n:Int):Wt Tryz.prog 303 a (.int b n)=Z5o 23 4 true a b n:=Og (P:=Tryz.prog) (e:=302) zk zk zk zd a b n
theorem Zsl(l:List (Nat×V)):Tf Tryz.prog 303 l=(Vh (Zrg 4) (List.replicate 92 (.int .u8 0)) l).map .agg:=Jm (P:=Tryz.prog) (N:=23) (e:=302) zk zk zk l
theorem Z7b:zLD 306 (true,93):=Ra
theorem Zgq:Yp Tryz.prog 306=some 93:=zk
theorem Z0c:zFA 306 0 (0,true,92):=Wz
theorem Zzc:zFA 306 1 (92,false,1):=Wz
theorem Z6b:zLD 319 (true,3):=Ra
theorem Zcl:zBD 319 [(0,1),(1,1),(2,1)] [.str [],.int .i64 0,.int .i64 0]:=Gz
theorem Zyc:zFA 319 0 (0,false,1):=Wz
theorem Zxc:zFA 319 1 (1,false,1):=Wz
theorem Zwc:zFA 319 2 (2,false,1):=Wz
theorem Z5b:zLD 320 (true,69):=Ra
theorem Zfq:Yp Tryz.prog 320=some 69:=zk
theorem Zqb:X7 Tryz.prog 320=some (.str []::.int .i64 0::.int .i64 0::.str []::.int .i64 0::.int .i64 0::.str []::.int .i64 0::.int .i64 0::.str []::.int .i64 0::.int .i64 0::.str []::.int .i64 0::.int .i64 0::.str []::.int .i64 0::.int .i64 0::.str []::.int .i64 0::.int .i64 0::.str []::.int .i64 0::.int .i64 0::.str []::.int .i64 0::.int .i64 0::.str []::.int .i64 0::.int .i64 0::.str []::.int .i64 0::.int .i64 0::.str []::.int .i64 0::.int .i64 0::.str []::.int .i64 0::.int .i64 0::.str []::.int .i64 0::.int .i64 0::.str []::.int .i64 0::.int .i64 0::.str []::.int .i64 0::.int .i64 0::.str []::.int .i64 0::.int .i64 0::.str []::.int .i64 0::.int .i64 0::.str []::.int .i64 0::.int .i64 0::.str []::.int .i64 0::.int .i64 0::.str []::.int .i64 0::.int .i64 0::.str []::.int .i64 0::.int .i64 0::.str []::.int .i64 0::.int .i64 0::[]):=zk
theorem Ztr(a:V)(b:IntKind)(n:Int):Wt Tryz.prog 320 a (.int b n)=Z5o 23 3 true a b n:=Og (P:=Tryz.prog) (e:=319) zk zk zk zd a b n
theorem Zrl(l:List (Nat×V)):Tf Tryz.prog 320 l=(Vh (Zrg 3) (.str []::.int .i64 0::.int .i64 0::.str []::.int .i64 0::.int .i64 0::.str []::.int .i64 0::.int .i64 0::.str []::.int .i64 0::.int .i64 0::.str []::.int .i64 0::.int .i64 0::.str []::.int .i64 0::.int .i64 0::.str []::.int .i64 0::.int .i64 0::.str []::.int .i64 0::.int .i64 0::.str []::.int .i64 0::.int .i64 0::.str []::.int .i64 0::.int .i64 0::.str []::.int .i64 0::.int .i64 0::.str []::.int .i64 0::.int .i64 0::.str []::.int .i64 0::.int .i64 0::.str []::.int .i64 0::.int .i64 0::.str []::.int .i64 0::.int .i64 0::.str []::.int .i64 0::.int .i64 0::.str []::.int .i64 0::.int .i64 0::.str []::.int .i64 0::.int .i64 0::.str []::.int .i64 0::.int .i64 0::.str []::.int .i64 0::.int .i64 0::.str []::.int .i64 0::.int .i64 0::.str []::.int .i64 0::.int .i64 0::.str []::.int .i64 0::.int .i64 0::[]) l).map .agg:=Jm (P:=Tryz.prog) (N:=23) (e:=319) zk zk zk l
attribute[go_sem]Zvj Zjj Zxq Zzr Zfe Zgc Zoq Zxb Zkl Zsd Zrd Zqd Zfc Znq Zwb Zjl Zpd Zod Znd Zmd Zld Zkd Zec Zmq Zuj Zij Zyr Zee Zdc Zlq Zvb Zil Zjd Zvr Zhl Zid Zhd Zgd Zgl Zfd Zed Zcc Zkq Zub Zdd Zcd Zbd Zbc Zfl Zad Z9c Z8c Z7c Z6c Zac Zjq Ztb Zel Z5c Z4c Z3c Z9b Ziq Zsb Zdl Z2c Z1c Z8b Zhq Zrb Zur Zsl Z7b Zgq Z0c Zzc Z6b Zcl Zyc Zxc Zwc Z5b Zfq Zqb Ztr Zrl
theorem Zbe:T5 Tryz.prog 327=some 2:=zk
theorem Ztj:zIX 327 2:=Av
theorem Zhj:zLN 327:=Au (m:=2)
theorem Zwq(a:V)(lo hi:Option V):Uh Tryz.prog 327 a lo hi none=slK 2 a lo hi:=Q5 Zbe a lo hi
theorem Zxr:zBS 327 2 [.int .i64 0,.int .i64 0]:=zbs (e:=330)
theorem Zde:zAC [327,327] 2 16:=zac
theorem Z4b:zLD 330 (true,2):=Ra
theorem Zeq:Yp Tryz.prog 330=some 2:=zk
theorem Zpb:X7 Tryz.prog 330=some [.int .i64 0,.int .i64 0]:=zk
theorem Zbl:zBD 330 [(0,1),(1,1)] [.int .i64 0,.int .i64 0]:=Gz
theorem Zvc:zFA 330 0 (0,false,1):=Wz
theorem Zuc:zFA 330 1 (1,false,1):=Wz
theorem Zsj:zIX 343 3:=Av
theorem Zgj:zLN 343:=Au (m:=3)
theorem Zgr(l:List V)(a:IntKind)(n:Int):R2 Tryz.prog 354 (.agg l) (.int a n)=if 0<=n/\n<(3:Nat)then Q8 false 1 l (n.toNat*1)else none:=Z0g (P:=Tryz.prog) (e:=9) zk zk zk zd l a n
theorem Zql(l:List (Nat×V)):Tf Tryz.prog 354 l=(Vh (Zrg 1) [.str [],.str [],.str []] l).map .agg:=Jm (P:=Tryz.prog) (N:=3) (e:=9) zk zk zk l
theorem Zwr(k:IntKind)(n:Int):Dw Tryz.prog 3 5 (.int k n)=some (.int .u8 (IntKind.wrap .u8 n)):=Zn2 (P:=Tryz.prog) (s:=3) (d:=5) zk zk k n
attribute[go_sem]Ztj Zhj Zwq Zxr Zde Z4b Zeq Zpb Zbl Zvc Zuc Zsj Zgj Zgr Zql Zwr
end Go.Hs
