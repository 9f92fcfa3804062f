/- A part. No condition. -/
import Derived.Test.YtjplgaebbfabnaaGreatDoorP17
import Derived.Test.YtjplgaebbfabnaaGreatDoorProg
set_option linter.all false
namespace Go.Hs
open Go.Proofs
abbrev zFA(t n:Nat)(x:Nat×Bool×Nat):Prop:=∀ a,Sd Tryz.prog t a n=Z57 (some x) a
theorem Wk{t n:Nat}{x:Nat×Bool×Nat}(h:Z47 Tryz.prog t n=some x:=by kernel_rfl):zFA t n x:=λa=>Zbd h a
abbrev zLD(t:Nat)(x:Bool×Nat):Prop:=∀ (H:Heap) (a:V),Wc Tryz.prog H t a=Ty (some x) (Zc0 H a) a
theorem Tp{t n:Nat}{b:Bool}(h:Zac Tryz.prog t=some (b,n):=by kernel_rfl):zLD t (b,n):=λH a=>Zgaa h H a
abbrev zIX(t m:Nat):Prop:=∀ a i:V,Wx Tryz.prog t a i=Zxj (some m) a i
theorem zix{t m:Nat}(h:S6 Tryz.prog t=some m:=by kernel_rfl):zIX t m:=λa i=>Z4c h a i
abbrev zLN(t:Nat):Prop:=∀ a:V,F5 Tryz.prog t a=J6 true a
theorem zln{t m:Nat}(h:S6 Tryz.prog t=some m:=by kernel_rfl):zLN t:=λa=>Zys h a
abbrev zAC(l:List Nat)(m b:Nat):Prop:=∀ (E:Ent) (ops:Array Oper) (Q:AS->Prop) (rest:List Oper) (e:Nat) (τ : Nat->V) (H:Heap) (x y:V),appC Tryz.prog E ops Q rest e τ H l x y=Bu Tryz.prog E ops Q rest e τ H m b x (U0 H m y) (obS H x)
theorem Ad{l:List Nat}{m b:Nat}(h:Z58 Tryz.prog l=some (m,b):=by kernel_rfl):zAC l m b:=λE ops Q rest e τ H x y=>appC_E ops h e x y
abbrev zBD(t:Nat)(T:List (Nat×Nat))(Z:List V):Prop:=∀ l:List (Nat×V),Ta Tryz.prog t l=(Vk (Z5b T) Z l).map .agg
theorem Mg{t:Nat}{T:List (Nat×Nat)}{Z:List V}(h:Z54 Tryz.prog t=some T:=by kernel_rfl)(a:Uv Tryz.prog t=some (.agg Z):=by kernel_rfl):zBD t T Z:=λl=>Zwk h a l
abbrev zBS(t m:Nat)(Z:List V):Prop:=∀ (n:Nat) (l:List (Nat×V)),Iw Tryz.prog t n l=bsK m Z n l
theorem Aa{t m e:Nat}{Z:List V}(h:Tryz.prog.underlying t=some (.slice e):=by kernel_rfl)(c:Yw Tryz.prog e=some m:=by kernel_rfl)(b:Xo Tryz.prog e=some Z:=by kernel_rfl)(a:Z.length=m:=by rfl):zBS t m Z:=λn l=>Zd2 h c b a n l
theorem Zgv:zLD 2 (false,1):=Tp
theorem Zfv:zLD 3 (false,1):=Tp
theorem Zf9:Yw Tryz.prog 3=some 1:=zk
theorem Zku:Xo Tryz.prog 3=some [.int .i64 0]:=zk
theorem Zev:zLD 4 (false,1):=Tp
theorem Ze9:Yw Tryz.prog 4=some 1:=zk
theorem Zju:Xo Tryz.prog 4=some [.bool false]:=zk
theorem Zx3(a b:Bool):Un Tryz.prog .neq 4 (.bool a) (.bool b)=some (.bool (a != b)):=(Zg2 (P:=Tryz.prog) zk a b).2
theorem Zdv:zLD 5 (false,1):=Tp
theorem Zd9:Yw Tryz.prog 5=some 1:=zk
theorem Zcv:zLD 9 (false,1):=Tp
theorem Zc9:Yw Tryz.prog 9=some 1:=zk
attribute[go_sem]Zgv Zfv Zf9 Zku Zev Ze9 Zju Zx3 Zdv Zd9 Zcv Zc9
theorem Gq:Cy Tryz.prog 9=true:=zk
theorem Z03(a:V):F5 Tryz.prog 9 a=J6 false a:=Za7 Gq a
theorem Z13(s:List UInt8)(k:IntKind)(n:Int):Qf Tryz.prog 9 (.str s) (.int k n)=if 0<=n then(s[n.toNat]?).map λb=>.int .u8 b.toNat else none:=Z6s Gq s k n
theorem Zl3(s:List UInt8)(lo hi:Option V):Ub Tryz.prog 9 (.str s) lo hi none=slJ (Yu 0 lo) (Yu s.length hi) λi j=>if i<=j/\j<=s.length then some (.str ((s.drop i).take (j-i)))else none:=Z3q Gq s lo hi
theorem Zrm:zLD 22 (false,1):=Tp
theorem Zk3:Yw Tryz.prog 22=some 1:=zk
attribute[go_sem]Z03 Z13 Zl3 Zrm Zk3
theorem Zw3:Ud Tryz.prog 22=2:=zk
@[go_sem] theorem Tryz.eqn22(a:V):Un Tryz.prog .eql 22 a .nils=(Pi 2 a).map .bool:=(V4 _ _ Zw3 zS a).1
theorem Zto:S6 Tryz.prog 22=some 2:=zk
theorem Z9v:zIX 22 2:=zix
theorem Ztv:zLN 22:=zln (m:=2)
theorem Zp3(a:V)(lo hi:Option V):Ub Tryz.prog 22 a lo hi none=slK 2 a lo hi:=Ob Zto a lo hi
theorem Zi4:zBS 22 2 [.str [],.int .i64 0]:=Aa (e:=91)
theorem Z2p:zAC [22,22] 2 24:=Ad
theorem Zqm:zLD 23 (false,1):=Tp
theorem Zj3:Yw Tryz.prog 23=some 1:=zk
attribute[go_sem]Z9v Ztv Zp3 Zi4 Z2p Zqm Zj3
theorem Zv3:Ud Tryz.prog 23=2:=zk
@[go_sem] theorem Tryz.eqn23(a:V):Un Tryz.prog .eql 23 a .nils=(Pi 2 a).map .bool:=(V4 _ _ Zv3 zS a).1
theorem Zso:S6 Tryz.prog 23=some 1:=zk
theorem Z8v:zIX 23 1:=zix
theorem Zsv:zLN 23:=zln (m:=1)
theorem Zo3(a:V)(lo hi:Option V):Ub Tryz.prog 23 a lo hi none=slK 1 a lo hi:=Ob Zso a lo hi
theorem Zh4:zBS 23 1 [.str []]:=Aa (e:=9)
theorem Z1p:zAC [23,23] 1 16:=Ad
theorem Zpm:zLD 24 (false,1):=Tp
theorem Zi3:Yw Tryz.prog 24=some 1:=zk
attribute[go_sem]Z8v Zsv Zo3 Zh4 Z1p Zpm Zi3
theorem Zu3:Ud Tryz.prog 24=2:=zk
theorem Zjw(a:V):Un Tryz.prog .eql 24 a .nils=(Pi 2 a).map .bool:=(V4 _ _ Zu3 zS a).1
theorem Z7v:zIX 24 2:=zix
theorem Zrv:zLN 24:=zln (m:=2)
theorem Zg4:zBS 24 2 [.str [],.int .i64 0]:=Aa (e:=107)
theorem Z0p:zAC [24,24] 2 24:=Ad
theorem Zom:zLD 25 (false,1):=Tp
theorem Zh3:Yw Tryz.prog 25=some 1:=zk
attribute[go_sem]Zjw Z7v Zrv Zg4 Z0p Zom Zh3
theorem Zt3:Ud Tryz.prog 25=2:=zk
theorem Ziw(a:V):Un Tryz.prog .eql 25 a .nils=(Pi 2 a).map .bool:=(V4 _ _ Zt3 zS a).1
theorem Z6v:zIX 25 8:=zix
theorem Zqv:zLN 25:=zln (m:=8)
theorem Zf4:zBS 25 8 [.str [],.int .u8 0,.int .i64 0,.int .i64 0,.str [],.str [],.nils,.str []]:=Aa (e:=83)
theorem Zzp:zAC [25,25] 8 112:=Ad
theorem Znm:zLD 26 (false,1):=Tp
theorem Zg3:Yw Tryz.prog 26=some 1:=zk
attribute[go_sem]Ziw Z6v Zqv Zf4 Zzp Znm Zg3
theorem Zs3:Ud Tryz.prog 26=2:=zk
theorem Zhw(a:V):Un Tryz.prog .eql 26 a .nils=(Pi 2 a).map .bool:=(V4 _ _ Zs3 zS a).1
theorem Z5v:zIX 26 8:=zix
theorem Zpv:zLN 26:=zln (m:=8)
theorem Ze4:zBS 26 8 [.str [],.int .i64 0,.int .i64 0,.nils,.int .i64 0,.str [],.str [],.int .u8 0]:=Aa (e:=71)
theorem Zyp:zAC [26,26] 8 104:=Ad
theorem Zmm:zLD 28 (true,6):=Tp
theorem Zf3:Yw Tryz.prog 28=some 6:=zk
theorem Zul:Xo Tryz.prog 28=some [.str [],.nils,.nils,.nils,.nils,.nils]:=zk
theorem Z2w:zBD 28 [(0,1),(1,1),(2,1),(3,1),(4,1),(5,1)] [.str [],.nils,.nils,.nils,.nils,.nils]:=Mg
theorem Zpo:zFA 28 0 (0,false,1):=Wk
theorem Zoo:zFA 28 1 (1,false,1):=Wk
theorem Zno:zFA 28 2 (2,false,1):=Wk
theorem Zmo:zFA 28 3 (3,false,1):=Wk
theorem Zlo:zFA 28 4 (4,false,1):=Wk
theorem Zko:zFA 28 5 (5,false,1):=Wk
theorem Zlm:zLD 29 (false,1):=Tp
theorem Ze3:Yw Tryz.prog 29=some 1:=zk
theorem Ztl:Xo Tryz.prog 29=some [.nils]:=zk
attribute[go_sem]Zhw Z5v Zpv Ze4 Zyp Zmm Zf3 Zul Z2w Zpo Zoo Zno Zmo Zlo Zko Zlm Ze3 Ztl
theorem Zib:Ud Tryz.prog 29=2:=zk
@[go_sem] theorem Tryz.eqn29(a:V):Un Tryz.prog .eql 29 a .nils=(Pi 2 a).map .bool:=(V4 _ _ Zib zS a).1
@[go_sem] theorem Tryz.nen29(a:V):Un Tryz.prog .neq 29 a .nils=(Pi 2 a).map λr=>.bool (!r):=(V4 _ _ Zib zS a).2
theorem Zro:S6 Tryz.prog 29=some 1:=zk
theorem Z4v:zIX 29 1:=zix
theorem Zov:zLN 29:=zln (m:=1)
theorem Zn3(a:V)(lo hi:Option V):Ub Tryz.prog 29 a lo hi none=slK 1 a lo hi:=Ob Zro a lo hi
theorem Zd4:zBS 29 1 [.int .i64 0]:=Aa (e:=3)
theorem Zz3(a b:V):Nq Tryz.prog 29 a b=msK 1 8 [.int .i64 0] a b:=H9 (P:=Tryz.prog) (t:=29) (e:=3) (E:=1) (bytes:=8) (z:=[.int .i64 0]) zk zk zk zk rfl a b
theorem Zxp:zAC [29,29] 1 8:=Ad
theorem Zkm:zLD 31 (true,2):=Tp
theorem Zd3:Yw Tryz.prog 31=some 2:=zk
theorem Zsl:Xo Tryz.prog 31=some [.nils,.nils]:=zk
theorem Z1w:zBD 31 [(0,1),(1,1)] [.nils,.nils]:=Mg
theorem Zjo:zFA 31 0 (0,false,1):=Wk
theorem Zio:zFA 31 1 (1,false,1):=Wk
theorem Zjm:zLD 35 (false,1):=Tp
attribute[go_sem]Z4v Zov Zn3 Zd4 Zz3 Zxp Zkm Zd3 Zsl Z1w Zjo Zio Zjm
theorem Zhb:Ud Tryz.prog 35=1:=zk
theorem Zgw(a:V):Un Tryz.prog .eql 35 a .nilp=(Pi 1 a).map .bool:=(V4 _ _ Zhb zS a).1
theorem Zav(a:V):Un Tryz.prog .neq 35 a .nilp=(Pi 1 a).map λr=>.bool (!r):=(V4 _ _ Zhb zS a).2
theorem Zim:zLD 36 (false,1):=Tp
theorem Zc3:Yw Tryz.prog 36=some 1:=zk
theorem Zrl:Xo Tryz.prog 36=some [.int .i64 0]:=zk
theorem Zhm:zLD 39 (false,1):=Tp
theorem Zb3:Yw Tryz.prog 39=some 1:=zk
theorem Zc4:zBS 39 2 [.str [],.int .i64 0]:=Aa (e:=105)
theorem Zwp:zAC [39,39] 2 24:=Ad
theorem Zgm:zLD 40 (false,1):=Tp
theorem Za3:Yw Tryz.prog 40=some 1:=zk
theorem Z3v:zIX 40 2:=zix
theorem Znv:zLN 40:=zln (m:=2)
theorem Zb4:zBS 40 2 [.str [],.int .i64 0]:=Aa (e:=108)
theorem Zvp:zAC [40,40] 2 24:=Ad
theorem Zfm:zLD 41 (false,1):=Tp
theorem Z92:Yw Tryz.prog 41=some 1:=zk
theorem Z2v:zIX 41 8:=zix
theorem Zmv:zLN 41:=zln (m:=8)
theorem Za4:zBS 41 8 [.str [],.int .u8 0,.int .i64 0,.int .i64 0,.str [],.str [],.nils,.str []]:=Aa (e:=109)
theorem Zup:zAC [41,41] 8 112:=Ad
theorem Zem:zLD 42 (false,1):=Tp
theorem Z82:Yw Tryz.prog 42=some 1:=zk
theorem Z93:zBS 42 8 [.str [],.int .i64 0,.int .i64 0,.nils,.int .i64 0,.str [],.str [],.int .u8 0]:=Aa (e:=110)
theorem Ztp:zAC [42,42] 8 104:=Ad
theorem Zdm:zLD 44 (true,6):=Tp
theorem Z72:Yw Tryz.prog 44=some 6:=zk
theorem Zql:Xo Tryz.prog 44=some [.str [],.nils,.nils,.nils,.nils,.nils]:=zk
theorem Z0w:zBD 44 [(0,1),(1,1),(2,1),(3,1),(4,1),(5,1)] [.str [],.nils,.nils,.nils,.nils,.nils]:=Mg
theorem Zho:zFA 44 1 (1,false,1):=Wk
theorem Zgo:zFA 44 2 (2,false,1):=Wk
theorem Zfo:zFA 44 3 (3,false,1):=Wk
theorem Zeo:zFA 44 4 (4,false,1):=Wk
theorem Zdo:zFA 44 5 (5,false,1):=Wk
theorem Zcm:zLD 46 (true,6):=Tp
theorem Z62:Yw Tryz.prog 46=some 6:=zk
theorem Zpl:Xo Tryz.prog 46=some [.str [],.nils,.nils,.nils,.nils,.nils]:=zk
theorem Zzw:zBD 46 [(0,6)] [.str [],.nils,.nils,.nils,.nils,.nils]:=Mg
theorem Zco:zFA 46 0 (0,true,6):=Wk
theorem Zbm:zLD 48 (true,12):=Tp
theorem Z52:Yw Tryz.prog 48=some 12:=zk
theorem Zol:Xo Tryz.prog 48=some [.str [],.nils,.nils,.nils,.nils,.nils,.str [],.nils,.nils,.nils,.nils,.nils]:=zk
theorem Zyw:zBD 48 [(0,6),(6,6)] [.str [],.nils,.nils,.nils,.nils,.nils,.str [],.nils,.nils,.nils,.nils,.nils]:=Mg
theorem Zbo:zFA 48 0 (0,true,6):=Wk
theorem Zao:zFA 48 1 (6,true,6):=Wk
theorem Zam:zLD 51 (true,2):=Tp
theorem Z42:Yw Tryz.prog 51=some 2:=zk
theorem Znl:Xo Tryz.prog 51=some [.nils,.nils]:=zk
theorem Zxw:zBD 51 [(0,1),(1,1)] [.nils,.nils]:=Mg
theorem Z9n:zFA 51 0 (0,false,1):=Wk
theorem Z8n:zFA 51 1 (1,false,1):=Wk
theorem Z9l:zLD 53 (false,1):=Tp
theorem Z32:Yw Tryz.prog 53=some 1:=zk
theorem Zml:Xo Tryz.prog 53=some [.nils]:=zk
theorem Z1v:zIX 53 6:=zix
theorem Zlv:zLN 53:=zln (m:=6)
theorem Z83:zBS 53 6 [.nils,.int .i64 0,.nils,.nils,.nils,.nils]:=Aa (e:=74)
theorem Zsp:zAC [53,53] 6 128:=Ad
theorem Z8l:zLD 54 (false,1):=Tp
theorem Z22:Yw Tryz.prog 54=some 1:=zk
theorem Z73:zBS 54 2 [.bool false,.nils]:=Aa (e:=96)
theorem Zrp:zAC [54,54] 2 32:=Ad
theorem Z7l:zLD 55 (false,1):=Tp
theorem Z12:Yw Tryz.prog 55=some 1:=zk
theorem Z63:zBS 55 1 [.nils]:=Aa (e:=100)
theorem Zqp:zAC [55,55] 1 24:=Ad
theorem Z6l:zLD 56 (false,1):=Tp
theorem Z02:Yw Tryz.prog 56=some 1:=zk
theorem Z0v:zIX 56 1:=zix
theorem Zkv:zLN 56:=zln (m:=1)
theorem Z53:zBS 56 1 [.nils]:=Aa (e:=29)
theorem Zy3(a b:V):Nq Tryz.prog 56 a b=msK 1 24 [.nils] a b:=H9 (P:=Tryz.prog) (t:=56) (e:=29) (E:=1) (bytes:=24) (z:=[.nils]) zk zk zk zk rfl a b
theorem Zpp:zAC [56,56] 1 24:=Ad
theorem Z5l:zLD 57 (false,1):=Tp
theorem Zz2:Yw Tryz.prog 57=some 1:=zk
theorem Zll:Xo Tryz.prog 57=some [.nilp]:=zk
attribute[go_sem]Zgw Zav Zim Zc3 Zrl Zhm Zb3 Zc4 Zwp Zgm Za3 Z3v Znv Zb4 Zvp Zfm Z92 Z2v Zmv Za4 Zup Zem Z82 Z93 Ztp Zdm Z72 Zql Z0w Zho Zgo Zfo Zeo Zdo Zcm Z62 Zpl Zzw Zco Zbm Z52 Zol Zyw Zbo Zao Zam Z42 Znl Zxw Z9n Z8n Z9l Z32 Zml Z1v Zlv Z83 Zsp Z8l Z22 Z73 Zrp Z7l Z12 Z63 Zqp Z6l Z02 Z0v Zkv Z53 Zy3 Zpp Z5l Zz2 Zll
theorem Zgb:Ud Tryz.prog 57=1:=zk
theorem Zfw(a:V):Un Tryz.prog .eql 57 a .nilp=(Pi 1 a).map .bool:=(V4 _ _ Zgb zS a).1
theorem Z9u(a:V):Un Tryz.prog .neq 57 a .nilp=(Pi 1 a).map λr=>.bool (!r):=(V4 _ _ Zgb zS a).2
theorem Z4l:zLD 58 (false,1):=Tp
theorem Zy2:Yw Tryz.prog 58=some 1:=zk
attribute[go_sem]Zfw Z9u Z4l Zy2
theorem Zr3:Ud Tryz.prog 58=1:=zk
theorem Zew(a:V):Un Tryz.prog .eql 58 a .nilp=(Pi 1 a).map .bool:=(V4 _ _ Zr3 zS a).1
theorem Z7n:zFA 60 0 (0,false,1):=Wk
theorem Z6n:zFA 60 1 (1,false,1):=Wk
theorem Zww:zBD 62 [(0,6),(6,1),(7,1),(8,1),(9,1),(10,1),(11,1),(12,2)] [.str [],.nils,.nils,.nils,.nils,.nils,.nils,.nils,.nils,.nils,.nils,.nils,.nilp,.nilp]:=Mg
theorem Z5n:zFA 62 0 (0,true,6):=Wk
theorem Z4n:zFA 62 1 (6,false,1):=Wk
theorem Z3n:zFA 62 2 (7,false,1):=Wk
theorem Z2n:zFA 62 3 (8,false,1):=Wk
theorem Z1n:zFA 62 4 (9,false,1):=Wk
theorem Z0n:zFA 62 5 (10,false,1):=Wk
theorem Zzn:zFA 62 6 (11,false,1):=Wk
theorem Zyn:zFA 62 7 (12,true,2):=Wk
theorem Z3l:zLD 71 (true,8):=Tp
theorem Zx2:Yw Tryz.prog 71=some 8:=zk
theorem Zkl:Xo Tryz.prog 71=some [.str [],.int .i64 0,.int .i64 0,.nils,.int .i64 0,.str [],.str [],.int .u8 0]:=zk
theorem Zvw:zBD 71 [(0,1),(1,1),(2,1),(3,1),(4,1),(5,1),(6,1),(7,1)] [.str [],.int .i64 0,.int .i64 0,.nils,.int .i64 0,.str [],.str [],.int .u8 0]:=Mg
theorem Zxn:zFA 71 0 (0,false,1):=Wk
theorem Zwn:zFA 71 1 (1,false,1):=Wk
theorem Zvn:zFA 71 2 (2,false,1):=Wk
theorem Zun:zFA 71 3 (3,false,1):=Wk
theorem Ztn:zFA 71 4 (4,false,1):=Wk
theorem Zsn:zFA 71 5 (5,false,1):=Wk
theorem Zrn:zFA 71 6 (6,false,1):=Wk
theorem Zqn:zFA 71 7 (7,false,1):=Wk
theorem Z2l:zLD 72 (false,1):=Tp
theorem Zw2:Yw Tryz.prog 72=some 1:=zk
attribute[go_sem]Zew Z7n Z6n Zww Z5n Z4n Z3n Z2n Z1n Z0n Zzn Zyn Z3l Zx2 Zkl Zvw Zxn Zwn Zvn Zun Ztn Zsn Zrn Zqn Z2l Zw2
theorem Zq3:Ud Tryz.prog 72=2:=zk
@[go_sem] theorem Tryz.eqn72(a:V):Un Tryz.prog .eql 72 a .nils=(Pi 2 a).map .bool:=(V4 _ _ Zq3 zS a).1
theorem Zqo:S6 Tryz.prog 72=some 2:=zk
theorem Zzv:zIX 72 2:=zix
theorem Zjv:zLN 72:=zln (m:=2)
theorem Zm3(a:V)(lo hi:Option V):Ub Tryz.prog 72 a lo hi none=slK 2 a lo hi:=Ob Zqo a lo hi
theorem Z43:zBS 72 2 [.int .i64 0,.nils]:=Aa (e:=178)
theorem Zop:zAC [72,72] 2 32:=Ad
theorem Z1l:zLD 74 (true,6):=Tp
theorem Zv2:Yw Tryz.prog 74=some 6:=zk
theorem Zjl:Xo Tryz.prog 74=some [.nils,.int .i64 0,.nils,.nils,.nils,.nils]:=zk
theorem Zuw:zBD 74 [(0,1),(1,1),(2,1),(3,1),(4,1),(5,1)] [.nils,.int .i64 0,.nils,.nils,.nils,.nils]:=Mg
theorem Zpn:zFA 74 0 (0,false,1):=Wk
theorem Zon:zFA 74 1 (1,false,1):=Wk
theorem Znn:zFA 74 2 (2,false,1):=Wk
theorem Zmn:zFA 74 3 (3,false,1):=Wk
theorem Zln:zFA 74 4 (4,false,1):=Wk
theorem Zkn:zFA 74 5 (5,false,1):=Wk
theorem Z0l:zLD 83 (true,8):=Tp
theorem Zu2:Yw Tryz.prog 83=some 8:=zk
theorem Zil:Xo Tryz.prog 83=some [.str [],.int .u8 0,.int .i64 0,.int .i64 0,.str [],.str [],.nils,.str []]:=zk
theorem Ztw:zBD 83 [(0,1),(1,1),(2,1),(3,1),(4,1),(5,1),(6,1),(7,1)] [.str [],.int .u8 0,.int .i64 0,.int .i64 0,.str [],.str [],.nils,.str []]:=Mg
theorem Zjn:zFA 83 0 (0,false,1):=Wk
theorem Zin:zFA 83 1 (1,false,1):=Wk
theorem Zhn:zFA 83 2 (2,false,1):=Wk
theorem Zgn:zFA 83 3 (3,false,1):=Wk
theorem Zfn:zFA 83 4 (4,false,1):=Wk
theorem Zen:zFA 83 5 (5,false,1):=Wk
theorem Zdn:zFA 83 6 (6,false,1):=Wk
theorem Zcn:zFA 83 7 (7,false,1):=Wk
theorem Zzl:zLD 91 (true,2):=Tp
theorem Zt2:Yw Tryz.prog 91=some 2:=zk
theorem Zhl:Xo Tryz.prog 91=some [.str [],.int .i64 0]:=zk
theorem Zsw:zBD 91 [(0,1),(1,1)] [.str [],.int .i64 0]:=Mg
theorem Zbn:zFA 91 0 (0,false,1):=Wk
theorem Zan:zFA 91 1 (1,false,1):=Wk
theorem Zyl:zLD 92 (false,1):=Tp
theorem Zs2:Yw Tryz.prog 92=some 1:=zk
theorem Zyv:zIX 92 6:=zix
theorem Ziv:zLN 92:=zln (m:=6)
theorem Z33:zBS 92 6 [.int .u8 0,.int .i64 0,.str [],.int .i64 0,.int .i64 0,.int .i64 0]:=Aa (e:=192)
theorem Znp:zAC [92,92] 6 56:=Ad
theorem Zxl:zLD 94 (true,1):=Tp
theorem Zr2:Yw Tryz.prog 94=some 1:=zk
theorem Zgl:Xo Tryz.prog 94=some [.nils]:=zk
theorem Zrw:zBD 94 [(0,1)] [.nils]:=Mg
theorem Z9m:zFA 94 0 (0,false,1):=Wk
theorem Zwl:zLD 96 (true,2):=Tp
theorem Zq2:Yw Tryz.prog 96=some 2:=zk
theorem Zfl:Xo Tryz.prog 96=some [.bool false,.nils]:=zk
theorem Zqw:zBD 96 [(0,1),(1,1)] [.bool false,.nils]:=Mg
theorem Zvl:zLD 98 (false,1):=Tp
theorem Zp2:Yw Tryz.prog 98=some 1:=zk
theorem Zxv:zIX 98 3:=zix
theorem Zhv:zLN 98:=zln (m:=3)
theorem Z23:zBS 98 3 [.int .u8 0,.str [],.nils]:=Aa (e:=243)
theorem Zmp:zAC [98,98] 3 48:=Ad
theorem Z7e:zLD 100 (true,1):=Tp
theorem Z6u:Yw Tryz.prog 100=some 1:=zk
theorem Zde:Xo Tryz.prog 100=some [.nils]:=zk
theorem Zfp:zBD 100 [(0,1)] [.nils]:=Mg
theorem Z7g:zFA 100 0 (0,false,1):=Wk
theorem Z6e:zLD 102 (false,1):=Tp
theorem Z5u:Yw Tryz.prog 104=some 4:=zk
theorem Zce:Xo Tryz.prog 104=some [.nilf,.nilf,.nilf,.nilf]:=zk
theorem Zdw(a:V)(b:IntKind)(n:Int):Wx Tryz.prog 104 a (.int b n)=Zyj 4 1 false a b n:=Qo (P:=Tryz.prog) (e:=102) zk zk zk zd a b n
theorem Zlp(l:List (Nat×V)):Ta Tryz.prog 104 l=(Vk (Aq 1) [.nilf,.nilf,.nilf,.nilf] l).map .agg:=O2 (P:=Tryz.prog) (N:=4) (e:=102) zk zk zk l
theorem Zep:zBD 105 [(0,1),(1,1)] [.str [],.int .i64 0]:=Mg
theorem Z5e:zLD 107 (true,2):=Tp
theorem Z4u:Yw Tryz.prog 107=some 2:=zk
theorem Zbe:Xo Tryz.prog 107=some [.str [],.int .i64 0]:=zk
theorem Zdp:zBD 107 [(0,1),(1,1)] [.str [],.int .i64 0]:=Mg
theorem Z6g:zFA 107 0 (0,false,1):=Wk
theorem Z5g:zFA 107 1 (1,false,1):=Wk
theorem Zcp:zBD 108 [(0,1),(1,1)] [.str [],.int .i64 0]:=Mg
theorem Z4g:zFA 108 1 (1,false,1):=Wk
theorem Z4e:zLD 109 (true,8):=Tp
theorem Z3u:Yw Tryz.prog 109=some 8:=zk
theorem Zae:Xo Tryz.prog 109=some [.str [],.int .u8 0,.int .i64 0,.int .i64 0,.str [],.str [],.nils,.str []]:=zk
theorem Zbp:zBD 109 [(0,1),(1,1),(2,1),(3,1),(4,1),(5,1),(6,1),(7,1)] [.str [],.int .u8 0,.int .i64 0,.int .i64 0,.str [],.str [],.nils,.str []]:=Mg
theorem Z3g:zFA 109 1 (1,false,1):=Wk
theorem Z2g:zFA 109 2 (2,false,1):=Wk
theorem Z1g:zFA 109 3 (3,false,1):=Wk
theorem Z0g:zFA 109 6 (6,false,1):=Wk
theorem Z3e:zLD 110 (true,8):=Tp
theorem Z2u:Yw Tryz.prog 110=some 8:=zk
theorem Z9d:Xo Tryz.prog 110=some [.str [],.int .i64 0,.int .i64 0,.nils,.int .i64 0,.str [],.str [],.int .u8 0]:=zk
theorem Zap:zBD 110 [(0,1),(1,1),(2,1),(3,1),(4,1),(5,1),(6,1),(7,1)] [.str [],.int .i64 0,.int .i64 0,.nils,.int .i64 0,.str [],.str [],.int .u8 0]:=Mg
theorem Zzg:zFA 110 3 (3,false,1):=Wk
theorem Z2e:zLD 114 (false,1):=Tp
theorem Z1u:Yw Tryz.prog 114=some 1:=zk
theorem Z8d:Xo Tryz.prog 114=some [.nilf]:=zk
theorem Zym:zLN 119:=zln (m:=2)
theorem Zpw:zBS 119 2 [.int .u8 0,.int .i64 0]:=Aa (e:=173)
theorem Zdh:zAC [119,119] 2 16:=Ad
theorem Z1e:zLD 122 (false,1):=Tp
theorem Z0u:Yw Tryz.prog 122=some 1:=zk
theorem Z7d:Xo Tryz.prog 122=some [.nilp]:=zk
theorem Z9o:zBD 124 [(0,6),(6,1)] [.str [],.nils,.nils,.nils,.nils,.nils,.nilp]:=Mg
theorem Zyg:zFA 124 0 (0,true,6):=Wk
theorem Zxg:zFA 124 1 (6,false,1):=Wk
theorem Z0e:zLD 130 (false,1):=Tp
theorem Zze:zLD 138 (false,1):=Tp
theorem Z8m:zIX 138 7:=zix
theorem Zxm:zLN 138:=zln (m:=7)
theorem Zbv(a b:V):Nq Tryz.prog 138 a b=msK 7 80 [.int .i64 0,.int .i64 0,.int .i64 0,.bool false,.bool false,.nils,.nils] a b:=H9 (P:=Tryz.prog) (t:=138) (e:=144) (E:=7) (bytes:=80) (z:=[.int .i64 0,.int .i64 0,.int .i64 0,.bool false,.bool false,.nils,.nils]) zk zk zk zk rfl a b
theorem Zye:zLD 139 (false,1):=Tp
theorem Z8o:zBD 141 [(0,1),(1,1),(2,1),(3,1)] [.nils,.nils,.nilm,.nilm]:=Mg
theorem Zwg:zFA 141 0 (0,false,1):=Wk
theorem Zvg:zFA 141 1 (1,false,1):=Wk
theorem Zug:zFA 141 2 (2,false,1):=Wk
theorem Ztg:zFA 141 3 (3,false,1):=Wk
theorem Zsg:zFA 144 0 (0,false,1):=Wk
theorem Zrg:zFA 144 1 (1,false,1):=Wk
theorem Zqg:zFA 144 2 (2,false,1):=Wk
theorem Zpg:zFA 144 3 (3,false,1):=Wk
theorem Zog:zFA 144 4 (4,false,1):=Wk
theorem Zng:zFA 144 5 (5,false,1):=Wk
theorem Zmg:zFA 144 6 (6,false,1):=Wk
theorem Zxe:zLD 148 (false,1):=Tp
theorem Zzu:Yw Tryz.prog 148=some 1:=zk
theorem Z7m:zIX 148 1:=zix
theorem Zwm:zLN 148:=zln (m:=1)
theorem Zow:zBS 148 1 [.int .u8 0]:=Aa (e:=5)
theorem Zch:zAC [148,148] 1 1:=Ad
theorem Z7o:zBD 150 [(0,1),(1,1),(2,1)] [.nilp,.nils,.int .i64 0]:=Mg
theorem Zlg:zFA 150 0 (0,false,1):=Wk
theorem Zkg:zFA 150 1 (1,false,1):=Wk
theorem Zjg:zFA 150 2 (2,false,1):=Wk
theorem Zwe:zLD 151 (false,1):=Tp
attribute[go_sem]Zzv Zjv Zm3 Z43 Zop Z1l Zv2 Zjl Zuw Zpn Zon Znn Zmn Zln Zkn Z0l Zu2 Zil Ztw Zjn Zin Zhn Zgn Zfn Zen Zdn Zcn Zzl Zt2 Zhl Zsw Zbn Zan Zyl Zs2 Zyv Ziv Z33 Znp Zxl Zr2 Zgl Zrw Z9m Zwl Zq2 Zfl Zqw Zvl Zp2 Zxv Zhv Z23 Zmp Z7e Z6u Zde Zfp Z7g Z6e Z5u Zce Zdw Zlp Zep Z5e Z4u Zbe Zdp Z6g Z5g Zcp Z4g Z4e Z3u Zae Zbp Z3g Z2g Z1g Z0g Z3e Z2u Z9d Zap Zzg Z2e Z1u Z8d Zym Zpw Zdh Z1e Z0u Z7d Z9o Zyg Zxg Z0e Zze Z8m Zxm Zbv Zye Z8o Zwg Zvg Zug Ztg Zsg Zrg Zqg Zpg Zog Zng Zmg Zxe Zzu Z7m Zwm Zow Zch Z7o Zlg Zkg Zjg Zwe
theorem Z9g:S6 Tryz.prog 151=some 3:=zk
theorem Z6m:zIX 151 3:=zix
theorem Zvm:zLN 151:=zln (m:=3)
theorem Z8u(a:V)(lo hi:Option V):Ub Tryz.prog 151 a lo hi none=slK 3 a lo hi:=Ob Z9g a lo hi
theorem Znw:zBS 151 3 [.int .u8 0,.str [],.int .i64 0]:=Aa (e:=155)
theorem Zbh:zAC [151,151] 3 32:=Ad
theorem Zve:zLD 155 (true,3):=Tp
theorem Zyu:Yw Tryz.prog 155=some 3:=zk
theorem Z6d:Xo Tryz.prog 155=some [.int .u8 0,.str [],.int .i64 0]:=zk
theorem Z6o:zBD 155 [(0,1),(1,1),(2,1)] [.int .u8 0,.str [],.int .i64 0]:=Mg
theorem Zig:zFA 155 0 (0,false,1):=Wk
theorem Zhg:zFA 155 1 (1,false,1):=Wk
theorem Zgg:zFA 155 2 (2,false,1):=Wk
theorem Zue:zLD 167 (false,1):=Tp
theorem Zte:zLD 170 (true,16):=Tp
theorem Zxu:Yw Tryz.prog 170=some 16:=zk
theorem Z5d:Xo Tryz.prog 170=some [.nilf,.nilf,.nilf,.nilf,.nilf,.nilf,.nilf,.nilf,.nilf,.nilf,.nilf,.nilf,.nilf,.nilf,.nilf,.nilf]:=zk
theorem Zwv(l:List V)(a:IntKind)(n:Int):Qf Tryz.prog 170 (.agg l) (.int a n)=if 0<=n/\n<(16:Nat)then Ps false 1 l (n.toNat*1)else none:=Cz (P:=Tryz.prog) (e:=169) zk zk zk zd l a n
theorem Zkp(l:List (Nat×V)):Ta Tryz.prog 170 l=(Vk (Aq 1) [.nilf,.nilf,.nilf,.nilf,.nilf,.nilf,.nilf,.nilf,.nilf,.nilf,.nilf,.nilf,.nilf,.nilf,.nilf,.nilf] l).map .agg:=O2 (P:=Tryz.prog) (N:=16) (e:=169) zk zk zk l
theorem Z5o:zBD 173 [(0,1),(1,1)] [.int .u8 0,.int .i64 0]:=Mg
theorem Zse:zLD 176 (false,1):=Tp
theorem Zwu:Yw Tryz.prog 176=some 1:=zk
theorem Z4d:Xo Tryz.prog 176=some [.nilm]:=zk
theorem Zre:zLD 178 (true,2):=Tp
theorem Zvu:Yw Tryz.prog 178=some 2:=zk
theorem Z3d:Xo Tryz.prog 178=some [.int .i64 0,.nils]:=zk
theorem Z4o:zBD 178 [(0,1),(1,1)] [.int .i64 0,.nils]:=Mg
theorem Zfg:zFA 178 0 (0,false,1):=Wk
theorem Zeg:zFA 178 1 (1,false,1):=Wk
theorem Zuu:Yw Tryz.prog 179=some 0:=zk
theorem Z2d:Xo Tryz.prog 179=some []:=zk
theorem Zqe:zLD 185 (true,3):=Tp
theorem Ztu:Yw Tryz.prog 185=some 3:=zk
theorem Z1d:Xo Tryz.prog 185=some [.int .u8 0,.int .i64 0,.int .i64 0]:=zk
theorem Z3o:zBD 185 [(0,1),(1,1),(2,1)] [.int .u8 0,.int .i64 0,.int .i64 0]:=Mg
theorem Zdg:zFA 185 0 (0,false,1):=Wk
theorem Zcg:zFA 185 1 (1,false,1):=Wk
theorem Zbg:zFA 185 2 (2,false,1):=Wk
theorem Zpe:zLD 187 (false,1):=Tp
theorem Zoe:zLD 192 (true,6):=Tp
theorem Zsu:Yw Tryz.prog 192=some 6:=zk
theorem Z0d:Xo Tryz.prog 192=some [.int .u8 0,.int .i64 0,.str [],.int .i64 0,.int .i64 0,.int .i64 0]:=zk
theorem Z2o:zBD 192 [(0,1),(1,1),(2,1),(3,1),(4,1),(5,1)] [.int .u8 0,.int .i64 0,.str [],.int .i64 0,.int .i64 0,.int .i64 0]:=Mg
theorem Zag:zFA 192 0 (0,false,1):=Wk
theorem Z9f:zFA 192 1 (1,false,1):=Wk
theorem Z8f:zFA 192 2 (2,false,1):=Wk
theorem Z7f:zFA 192 3 (3,false,1):=Wk
theorem Z6f:zFA 192 4 (4,false,1):=Wk
theorem Z5f:zFA 192 5 (5,false,1):=Wk
theorem Z1o:zBD 197 [(0,1),(1,1),(2,1)] [.nils,.int .i64 0,.int .i64 0]:=Mg
theorem Z4f:zFA 197 0 (0,false,1):=Wk
theorem Z3f:zFA 197 1 (1,false,1):=Wk
theorem Z2f:zFA 197 2 (2,false,1):=Wk
theorem Z0o:zBD 199 [(0,3),(3,1)] [.nils,.int .i64 0,.int .i64 0,.nils]:=Mg
theorem Zzf:zFA 199 0 (0,true,3):=Wk
theorem Zyf:zFA 199 1 (3,false,1):=Wk
theorem Zvv(l:List V)(a:IntKind)(n:Int):Qf Tryz.prog 202 (.agg l) (.int a n)=if 0<=n/\n<(2:Nat)then Ps false 1 l (n.toNat*1)else none:=Cz (P:=Tryz.prog) (e:=29) zk zk zk zd l a n
theorem Zjp(l:List (Nat×V)):Ta Tryz.prog 202 l=(Vk (Aq 1) [.nils,.nils] l).map .agg:=O2 (P:=Tryz.prog) (N:=2) (e:=29) zk zk zk l
theorem Zzo:zBD 205 [(0,6),(6,1),(7,1)] [.str [],.nils,.nils,.nils,.nils,.nils,.nils,.nils]:=Mg
theorem Zxf:zFA 205 0 (0,true,6):=Wk
theorem Zwf:zFA 205 1 (6,false,1):=Wk
theorem Zvf:zFA 205 2 (7,false,1):=Wk
theorem Zne:zLD 212 (false,1):=Tp
theorem Z5m:zIX 218 1:=zix
theorem Zum:zLN 218:=zln (m:=1)
theorem Zmw:zBS 218 1 [.nilf]:=Aa (e:=187)
theorem Zcw(a:V)(b:IntKind)(n:Int):Wx Tryz.prog 237 a (.int b n)=Zyj 14 1 false a b n:=Qo (P:=Tryz.prog) (e:=9) zk zk zk zd a b n
theorem Zme:zLD 243 (true,3):=Tp
theorem Zru:Yw Tryz.prog 243=some 3:=zk
theorem Zzd:Xo Tryz.prog 243=some [.int .u8 0,.str [],.nils]:=zk
theorem Zuf:zFA 243 0 (0,false,1):=Wk
theorem Ztf:zFA 243 1 (1,false,1):=Wk
theorem Zrf:zFA 243 2 (2,true,1):=Wk
theorem Zle:zLD 266 (false,1):=Tp
theorem Zyo:zBD 268 [(0,1),(1,1),(2,1),(3,1),(4,1)] [.nils,.int .i64 0,.nils,.int .i64 0,.nilf]:=Mg
theorem Zqf:zFA 268 0 (0,false,1):=Wk
theorem Zpf:zFA 268 1 (1,false,1):=Wk
theorem Zof:zFA 268 2 (2,false,1):=Wk
theorem Zmf:zFA 268 3 (3,false,1):=Wk
theorem Zlf:zFA 268 4 (4,false,1):=Wk
theorem Zke:zLD 272 (true,3):=Tp
theorem Zqu:Yw Tryz.prog 272=some 3:=zk
theorem Zyd:Xo Tryz.prog 272=some [.int .u8 0,.int .u8 0,.int .u8 0]:=zk
theorem Zxo:zBD 272 [(0,1),(1,1),(2,1)] [.int .u8 0,.int .u8 0,.int .u8 0]:=Mg
theorem Zkf:zFA 272 0 (0,false,1):=Wk
theorem Zjf:zFA 272 1 (1,false,1):=Wk
theorem Zif:zFA 272 2 (2,false,1):=Wk
theorem Zje:zLD 274 (true,4):=Tp
theorem Zpu:Yw Tryz.prog 274=some 4:=zk
theorem Zxd:Xo Tryz.prog 274=some [.int .u8 0,.int .u8 0,.int .u8 0,.int .u8 0]:=zk
theorem Zwo:zBD 274 [(0,3),(3,1)] [.int .u8 0,.int .u8 0,.int .u8 0,.int .u8 0]:=Mg
theorem Zhf:zFA 274 0 (0,true,3):=Wk
theorem Zgf:zFA 274 1 (3,false,1):=Wk
theorem Zie:zLD 275 (true,92):=Tp
theorem Zou:Yw Tryz.prog 275=some 92:=zk
theorem Zwd:Xo Tryz.prog 275=some (List.replicate 92 (.int .u8 0)):=zk
theorem Zbw(a:V)(b:IntKind)(n:Int):Wx Tryz.prog 275 a (.int b n)=Zyj 23 4 true a b n:=Qo (P:=Tryz.prog) (e:=274) zk zk zk zd a b n
theorem Zip(l:List (Nat×V)):Ta Tryz.prog 275 l=(Vk (Aq 4) (List.replicate 92 (.int .u8 0)) l).map .agg:=O2 (P:=Tryz.prog) (N:=23) (e:=274) zk zk zk l
theorem Zhe:zLD 278 (true,93):=Tp
theorem Znu:Yw Tryz.prog 278=some 93:=zk
theorem Zff:zFA 278 0 (0,true,92):=Wk
theorem Zef:zFA 278 1 (92,false,1):=Wk
theorem Zge:zLD 295 (true,3):=Tp
theorem Zvo:zBD 295 [(0,1),(1,1),(2,1)] [.str [],.int .i64 0,.int .i64 0]:=Mg
theorem Zdf:zFA 295 0 (0,false,1):=Wk
theorem Zbf:zFA 295 1 (1,false,1):=Wk
theorem Zaf:zFA 295 2 (2,false,1):=Wk
theorem Zfe:zLD 296 (true,69):=Tp
theorem Zmu:Yw Tryz.prog 296=some 69:=zk
theorem Zvd:Xo Tryz.prog 296=some (.str []::.int .i64 0::.int .i64 0::.str []::.int .i64 0::.int .i64 0::.str []::.int .i64 0::.int .i64 0::.str []::.int .i64 0::.int .i64 0::.str []::.int .i64 0::.int .i64 0::.str []::.int .i64 0::.int .i64 0::.str []::.int .i64 0::.int .i64 0::.str []::.int .i64 0::.int .i64 0::.str []::.int .i64 0::.int .i64 0::.str []::.int .i64 0::.int .i64 0::.str []::.int .i64 0::.int .i64 0::.str []::.int .i64 0::.int .i64 0::.str []::.int .i64 0::.int .i64 0::.str []::.int .i64 0::.int .i64 0::.str []::.int .i64 0::.int .i64 0::.str []::.int .i64 0::.int .i64 0::.str []::.int .i64 0::.int .i64 0::.str []::.int .i64 0::.int .i64 0::.str []::.int .i64 0::.int .i64 0::.str []::.int .i64 0::.int .i64 0::.str []::.int .i64 0::.int .i64 0::.str []::.int .i64 0::.int .i64 0::.str []::.int .i64 0::.int .i64 0::[]):=zk
theorem Zaw(a:V)(b:IntKind)(n:Int):Wx Tryz.prog 296 a (.int b n)=Zyj 23 3 true a b n:=Qo (P:=Tryz.prog) (e:=295) zk zk zk zd a b n
theorem Zhp(l:List (Nat×V)):Ta Tryz.prog 296 l=(Vk (Aq 3) (.str []::.int .i64 0::.int .i64 0::.str []::.int .i64 0::.int .i64 0::.str []::.int .i64 0::.int .i64 0::.str []::.int .i64 0::.int .i64 0::.str []::.int .i64 0::.int .i64 0::.str []::.int .i64 0::.int .i64 0::.str []::.int .i64 0::.int .i64 0::.str []::.int .i64 0::.int .i64 0::.str []::.int .i64 0::.int .i64 0::.str []::.int .i64 0::.int .i64 0::.str []::.int .i64 0::.int .i64 0::.str []::.int .i64 0::.int .i64 0::.str []::.int .i64 0::.int .i64 0::.str []::.int .i64 0::.int .i64 0::.str []::.int .i64 0::.int .i64 0::.str []::.int .i64 0::.int .i64 0::.str []::.int .i64 0::.int .i64 0::.str []::.int .i64 0::.int .i64 0::.str []::.int .i64 0::.int .i64 0::.str []::.int .i64 0::.int .i64 0::.str []::.int .i64 0::.int .i64 0::.str []::.int .i64 0::.int .i64 0::.str []::.int .i64 0::.int .i64 0::[]) l).map .agg:=O2 (P:=Tryz.prog) (N:=23) (e:=295) zk zk zk l
attribute[go_sem]Z6m Zvm Z8u Znw Zbh Zve Zyu Z6d Z6o Zig Zhg Zgg Zue Zte Zxu Z5d Zwv Zkp Z5o Zse Zwu Z4d Zre Zvu Z3d Z4o Zfg Zeg Zuu Z2d Zqe Ztu Z1d Z3o Zdg Zcg Zbg Zpe Zoe Zsu Z0d Z2o Zag Z9f Z8f Z7f Z6f Z5f Z1o Z4f Z3f Z2f Z0o Zzf Zyf Zvv Zjp Zzo Zxf Zwf Zvf Zne Z5m Zum Zmw Zcw Zme Zru Zzd Zuf Ztf Zrf Zle Zyo Zqf Zpf Zof Zmf Zlf Zke Zqu Zyd Zxo Zkf Zjf Zif Zje Zpu Zxd Zwo Zhf Zgf Zie Zou Zwd Zbw Zip Zhe Znu Zff Zef Zge Zvo Zdf Zbf Zaf Zfe Zmu Zvd Zaw Zhp
theorem Z8g:S6 Tryz.prog 303=some 2:=zk
theorem Z4m:zIX 303 2:=zix
theorem Ztm:zLN 303:=zln (m:=2)
theorem Z7u(a:V)(lo hi:Option V):Ub Tryz.prog 303 a lo hi none=slK 2 a lo hi:=Ob Z8g a lo hi
theorem Zlw:zBS 303 2 [.int .i64 0,.int .i64 0]:=Aa (e:=306)
theorem Zah:zAC [303,303] 2 16:=Ad
theorem Zee:zLD 306 (true,2):=Tp
theorem Zlu:Yw Tryz.prog 306=some 2:=zk
theorem Zud:Xo Tryz.prog 306=some [.int .i64 0,.int .i64 0]:=zk
theorem Zuo:zBD 306 [(0,1),(1,1)] [.int .i64 0,.int .i64 0]:=Mg
theorem Z9e:zFA 306 0 (0,false,1):=Wk
theorem Z8e:zFA 306 1 (1,false,1):=Wk
theorem Z3m:zIX 315 3:=zix
theorem Zsm:zLN 315:=zln (m:=3)
theorem Zuv(l:List V)(a:IntKind)(n:Int):Qf Tryz.prog 324 (.agg l) (.int a n)=if 0<=n/\n<(3:Nat)then Ps false 1 l (n.toNat*1)else none:=Cz (P:=Tryz.prog) (e:=9) zk zk zk zd l a n
theorem Zgp(l:List (Nat×V)):Ta Tryz.prog 324 l=(Vk (Aq 1) [.str [],.str [],.str []] l).map .agg:=O2 (P:=Tryz.prog) (N:=3) (e:=9) zk zk zk l
theorem Zkw(k:IntKind)(n:Int):Bk Tryz.prog 3 5 (.int k n)=some (.int .u8 (IntKind.wrap .u8 n)):=Zf8 (P:=Tryz.prog) (s:=3) (d:=5) zk zk k n
attribute[go_sem]Z4m Ztm Z7u Zlw Zah Zee Zlu Zud Zuo Z9e Z8e Z3m Zsm Zuv Zgp Zkw
end Go.Hs
