/- A part. No condition. -/
import Derived.Test.YtkennpiglkfalaaGreatDoorP29
import Derived.Test.YtkennpiglkfalaaGreatDoorP30
import Derived.LaidEql
import Derived.Stop.Asserts
import Derived.RowKitTokens
import Derived.WalkKit
import Derived.BigCall
import Derived.BigGuard
import Derived.Lib.AppendIntMem
import Derived.Shelf.Strings.Search3
import Derived.Shelf.Strings.Trim
import Derived.Shelf.Strings.OnBuilder
set_option linter.all false
open Bool renaming false->ab,true->ad
open Option renaming some->ae,none->ah
open Go.Proofs.Tryz renaming prog->ai
open Go.Proofs.Tryz
open Go.Extern.ReflectliteType renaming typeOf->aQ
open Go.Lib renaming trimPrefix->aR
open Go.RowKit.Below renaming refl->aS
section
namespace Go.Hs
open Go.Proofs
set_option maxRecDepth 10000
def B0(G)(s p:bS):Spec () G 324 [s,p] Zm (aR s p):=by refine Sy λX a _ _ g=>?_;obtain⟨x,y,rfl,f,d⟩:=g.two;obtain⟨b,rfl,rfl⟩:=f.str_inv;obtain⟨c,rfl,rfl⟩:=d.str_inv;refine(show Calls _ _ _ _ _ from Any.strings_TrimPrefix oP b c _).mono ?_;rintro e w' ⟨rfl,rfl⟩;exact⟨_,_,rfl,aS _ _,.AB _ _ rfl,zS⟩
def AC1{c:UInt8}(h:c.toNat=48):c=48:=cd.1 h
def np(G)(x:Yy G)(s:bS)(y:s.length<1000000):Spec () G 316 [s] Zm (Nu s):=by
 refine Zo 0 34 _ func316 λX=>?_;refine Z1 ?_;refine Z1 ?_;refine Zn x ?_ (s:=(B0 G s _));have n:=Lib.trimPrefix_le s [45];have g:Nu s=((aR s _).all Yz&&(s==[48]||(!(aR s _==[]) && !((aR s _).head? == ae 48)))):=rfl;generalize aR s [45]=t at n g⊢;refine Zs ?_;refine Z1 ?_;refine BK ?_;refine Z8 [0,3,7,8] [] t.length (λk  _=>[(9,k)]) (λ_ _=>[]) (λk _=>(t.take k).all Yz=ad) 0 () qz rfl zp zp ?_;intro k _ z p A o;refine Z1 ?_;refine Zz ?_;refine Zi rfl (λq=>?_) (λq=>?_);have b:k<t.length:=by have:=JC q;omega
 refine Z0 ?_;have m:=AY b;have f:t.take (k+1)=t.take k++[t[k]]:=by rw[DO b]
 generalize t[k]=c at m f;refine Ym m ?_;by_cases d:Yz c=ad;have i:48<=c.toNat/\c.toNat<=57:=by unfold Yz at d;simpa using d
 have a:=zV ((c.toNat:Int)<48);have u:=zV ((c.toNat:Int)>57);refine Ym (j3 m a u) ?_;refine Xh rfl ?_;refine Z1 ?_;refine o _ ⟨b,(),by rw[f,LF,p];simp[d],AO (by refine Zs ?_;exact BU _ (by rw[Xi zo zo];omega)) zp⟩;have e:t.all Yz=ab:=by rw[<- HX (k+1) t,LF,f,LF];have:=zu d;simp[this]
 have i:c.toNat<48\/57<c.toNat:=by rcases GG c.toNat 48 with h|h;exact .inl h;rcases GG 57 c.toNat with l|l;exact .inr l;exact absurd (by unfold Yz;simp[h,l]) d
 rcases i with h|h;have a:=zU ((c.toNat:Int)<48);refine Ym (zi m a) ?_;refine Zi rfl (λj=>?_) (λj=>?_);refine Z ?_;rw[g,e]<;>rfl;cases j;have a:=zV ((c.toNat:Int)<48);have u:=zU ((c.toNat:Int)>57);refine Ym (j3 m a u) ?_;refine Zi rfl (λj=>?_) (λj=>?_);refine Z ?_;rw[g,e]<;>rfl;cases j;have b:k=t.length:=by have:=SJ q;omega
 refine Z0 ?_;rw[b,B_]at p;rw[p]at g;by_cases w:s=[48];have a:(s==[48])=ad:=zu w;refine Zf a ?_;rw[g,a]<;>rfl
 .have a:(s==[48])=ab:=zu w;rcases t with _|⟨c,r⟩;refine Zf a ?_;rw[g,a]<;>rfl;refine Zf a ?_;rw[g,a];by_cases d:c=48;subst d;rfl;have l:((c.toNat:Int) != 48)=ad:=JJ.2 λh=>d (AC1 zo);have h2:((c::r).head? == ae 48)=ab:=zu d;rw[l,h2]<;>rfl
end Go.Hs
namespace Go.Proofs.NumD
open Go.RowKit Go.Extern.Stop Go.Stop Go.Extern
set_option maxRecDepth 100000
def xI(v w):(aQ #[.iface 407 v]).run ai w=.ok (.iface 385 (.agg #[.pointer (ae ⟨9,407,ah⟩)])) w:=by kernel_rfl
def tN(w):((Extern.ReflectliteType.method fun t=>do Extern.Rtype.noPackHeld "Comparable" t;pure (.bool (← typeInfo t).comparable)) #[.agg #[.pointer (ae ⟨9,407,ah⟩)]]).run ai w = .ok (.bool ad) w:=by kernel_rfl
def mL(w):(callFunc 382 #[.agg #[.pointer (ae ⟨9,407,ah⟩)]]).run ai w=.ok (.value (.bool ad)) w:=by
 rw [@run_callFunc_extern _ _ _ _ func382 (by kernel_rfl) (by kernel_rfl) (by kernel_rfl) (by kernel_rfl),tN]
 try rfl
def Gb(v w):(Go.method 551 385 v "Comparable").run ai w = .ok (382,v) w:=by kernel_rfl
def ACJ:(ai.info? 407).map (·.comparable)=ae ad:=by kernel_rfl
def ACK:(ai.info? 409).map (·.size)=ae 1:=by kernel_rfl
def ACX(v xT w):(Instr.typeAssert (.iface 381 v) xT 387 ad).run ai w=.ok (.tuple #[.nilIface,.bool ab]) w:=run_typeAssert_lacksB underlying387 (by kernel_rfl) (by kernel_rfl) v xT w
def vc(v xT w):(Instr.typeAssert (.iface 381 v) xT 390 ad).run ai w=.ok (.tuple #[.iface 381 v,.bool ad]) w:=run_typeAssert_hasB underlying390 (by kernel_rfl) v xT w
def qc(v w):(Go.method 551 381 v "Unwrap").run ai w = .ok (378,v) w:=by kernel_rfl
def is_nil(b w):Calls ai 318 #[.nilIface,.iface 407 (.pointer (ae b))] w λe w'=>e=.returned (.bool ab)/\w'=w:=by
 have a:=run_eql_iface_nil_left w 407 (.pointer (ae b)) underlying360
 go_enter func318,ntmps318
 go_wp2
 go_ret
 exact⟨rfl,rfl⟩
def is_num(d c b w)(t:w.cell? ⟨d,c+2,ah⟩=ae (.iface 407 (.pointer (ae b)))):Calls ai 318 #[.iface 381 (.pointer (ae ⟨d,c,ah⟩)),.iface 407 (.pointer (ae b))] w λe w'=>e=.returned (.bool ad)/\w'=w:=by
 obtain⟨i,k,a⟩:=I_.1 ACJ;obtain⟨j,h,g⟩:=I_.1 ACK;have s:=@run_callFunc_extern ai 327 _ aQ func327 (by kernel_rfl) (by kernel_rfl) (by kernel_rfl) (by kernel_rfl);have r:=mL;have n:=xI;have q:=Gb;have o:=ACX;have m:=vc;have p:=qc;have l:=run_eql_iface_ptr_same w b underlying360 underlying407 k a h;have f:=run_eql_iface_types 381 407 (.pointer (ae ⟨d,c,ah⟩)) (.pointer (ae b)) underlying360 (by decide) w
 go_enter func318,ntmps318
 go_wp2
 refine wp_loop_rounds 2 ?_;rw[rounds_succ]
 go_wp2
 rw[rounds_succ]
 go_wp2
 go_ret
 exact⟨rfl,rfl⟩
end Go.Proofs.NumD
namespace Go.Hs
open Go.Proofs Go.RowKit
set_option maxRecDepth 100000
def yV(s)(a:s.data.toList.length<1000000)(w):Calls ai 316 #[.string s] w λe w'=>e=.returned (.bool (Nu s.data.toList))/\Below w.heap.size w w':=by refine((np _ sI _ a).toCalls (AAz s)).mono ?_;rintro e w' ⟨c,v,f,Y,rfl,b,rfl,d⟩;exact⟨by rw[b.bool_inv],d⟩
def zX(s)(a:s.data.toList.length<1000000)(v)(h:Lib.parseIntB 64 s.data.toList=.ok v)(w):Calls ai 317 #[.string s,.int .i64 10,.int .i64 64] w λe w'=>e=.returned (.tuple #[.int .i64 v,.nilIface])/\Below w.heap.size w w':=by refine(show Calls _ _ _ _ _ from Any.strconv_ParseInt_10_at64_ok Bt s (by rw[Lib.size_eq];omega) v h w).mono ?_;rintro e w' ⟨rfl,rfl|⟨t,rfl⟩⟩;exact⟨rfl,Below.refl _ _⟩;exact⟨rfl,Lib.bytesWorld_below _ _ _⟩
def uC(s)(g:s.data.toList.length<1000000)(h:Lib.parseIntB 64 s.data.toList=.range)(a b w)(c:w.cell? ⟨2,0,ah⟩=ae (.iface a b)):Calls ai 317 #[.string s,.int .i64 10,.int .i64 64] w λe w'=>∃ N n,e=.returned (.tuple #[.int .i64 n,.iface 381 (.pointer (ae ⟨N,0,ah⟩))])/\w'.cell? ⟨N,2,ah⟩=ae (.iface a b)/\Below w.heap.size w w':=by refine(show Calls _ _ _ _ _ from Any.strconv_ParseInt_10_at64_range Bt s (by rw[Lib.size_eq];omega) h _ w c (.inr ⟨_,_,rfl⟩)).mono ?_;rintro e w' ⟨N,rfl,_,f,d⟩;exact⟨N,_,rfl,by simp[World.cell?,f],d⟩
def y7(s)(m:s.data.toList.length<1000000)(b w)(l:w.cell? ⟨2,0,ah⟩=ae (.iface 407 (.pointer (ae b)))):Calls ai 310 #[.string s] w λe w'=>e=.returned (.tuple #[.int .i64 (Vz s.data.toList).1,.int .i64 (Vz s.data.toList).2])/\Below w.heap.size w w':=by
 have g:=yV s m;have lt:=Lib.lt_of_cell l;rcases o7 _ with ⟨f,h2⟩|⟨f,⟨v,h2,h⟩|⟨h2,h⟩⟩
 .rw[f]at g;rw[h2]
  try clear f h2
  go_enter func310,ntmps310
  go_wp2_with (go_at_call 316;refine(g _).mono ?_;rintro e j ⟨rfl,a⟩)
  go_wp2
  go_ret2
  exact⟨rfl,a⟩
 .rw[f]at g;rw[h];have o:=zX s m v h2;have q:=NumD.is_nil b
  try clear f h2 h
  go_enter func310,ntmps310
  go_wp2_with (go_at_call 316;refine(g _).mono ?_;rintro e j ⟨rfl,a⟩)
  have d:=(a.cell lt).trans l
  go_wp2_with (go_at_call 317;refine(o _).mono ?_)
  rintro e i ⟨rfl,c⟩;have k:=(c.cell (GU lt a.size)).trans d
  go_wp2_with (go_at_call 318;refine(q _).mono ?_;rintro e t ⟨rfl,rfl⟩)
  go_wp2
  go_ret2
  exact⟨rfl,a.trans (c.mono a.size)⟩
 .rw[f]at g;rw[h];have o:=uC s m h2 407 (.pointer (ae b))
  try clear f h2 h
  go_enter func310,ntmps310
  go_wp2_with (go_at_call 316;refine(g _).mono ?_;rintro e j ⟨rfl,a⟩)
  have d:=(a.cell lt).trans l
  go_wp2_with (go_at_call 317;refine(o _ ?_).mono ?_)
  exact d;rintro e i ⟨N,n,rfl,r,c⟩;have k:=(c.cell (GU lt a.size)).trans d;have p:=NumD.is_num N 0 b i r
  go_wp2_with (go_at_call 318;refine p.mono ?_;rintro e t ⟨rfl,rfl⟩)
  go_wp2
  go_ret2
  exact⟨rfl,a.trans (c.mono a.size)⟩
open Go.Proofs
set_option maxRecDepth 10000
structure b6(G:Nat->V):Prop where
 ok:Yy G
 er:∃ c c' v,G 2=.view c (.iface 407 (.view c' v))
 tab:∃ c,G 6=.view c (.agg (Lib.pow10Tab.map (V.int .u64)))
def n3(G)(p:b6 G)(s:bS)(k:s.length<1000000):Spec () G 310 [s] Zm (encR (Vz s)):=by
 refine Sy λX d _ o q=>?_;obtain⟨x,rfl,j⟩:=q.one;obtain⟨h,rfl,rfl⟩:=j.str_inv;obtain⟨c,r,v,m⟩:=p.er;have g:=(o 2).CV;rw[m]at g;obtain⟨f,l⟩:=g.view_inv;obtain⟨a,h2⟩:=l 0 (by simp[V.cells]);have h2:AI X _ _:=h2;generalize f 0=y at a h2;cases h2 with
 |iface t x _ h3=>
  cases h3 with
  |view _ _ b off f' _ _=>
   refine(y7 h k _ _ a).mono ?_;rintro e w' ⟨rfl,n⟩;refine⟨_,_,rfl,n,?_,rfl⟩;refine .tuple _ _ rfl λi a h2=>?_
   match i,a with|0,_=>exact .int _ _|1,_=>exact .int _ _
end Go.Hs
namespace Go.Proofs
open Go.Shelf
def Ad:Go.Shelf.Ren:=⟨fun|99=>227|206=>248|n=>n,fun|9=>9|4=>4|3=>3|n=>n,fun|n=>n⟩
def pK:Go.Proofs.Lays.n99 ai Ad:={
 mixed:=by kernel_rfl
 f99:=func227.trans (BU _ (by kernel_rfl))
 f206:=func248.trans (BU _ (by kernel_rfl))
 t3:=underlying3
 a3:=Tryz.isAgg3
 z3:=Tryz.sizeOf3
 v3:=Tryz.zeroValue3
 t4:=underlying4
 a4:=Tryz.isAgg4
 z4:=Tryz.sizeOf4
 v4:=Tryz.zeroValue4
 t9:=underlying9
 a9:=Tryz.isAgg9
 z9:=Tryz.sizeOf9
 v9:=Tryz.zeroValue9}
def Af:Go.Shelf.Ren:=⟨fun|144=>232|143=>249|219=>265|217=>287|225=>288|224=>289|267=>290|266=>307|314=>308|n=>n,fun|9=>9|4=>4|3=>3|5=>5|46=>169|146=>346|51=>216|n=>n,fun|1=>1|n=>n⟩
def pe:Go.Proofs.Lays.n144 ai Af:={
 mixed:=by kernel_rfl
 f143:=func249.trans (BU _ (by kernel_rfl))
 f144:=func232.trans (BU _ (by kernel_rfl))
 f217:=func287.trans (BU _ (by kernel_rfl))
 f219:=func265.trans (BU _ (by kernel_rfl))
 f224:=func289.trans (BU _ (by kernel_rfl))
 f225:=func288.trans (BU _ (by kernel_rfl))
 f266:=func307.trans (BU _ (by kernel_rfl))
 f267:=func290.trans (BU _ (by kernel_rfl))
 f314:=func308.trans (BU _ (by kernel_rfl))
 t3:=underlying3
 a3:=Tryz.isAgg3
 z3:=Tryz.sizeOf3
 v3:=Tryz.zeroValue3
 t4:=underlying4
 a4:=Tryz.isAgg4
 z4:=Tryz.sizeOf4
 v4:=Tryz.zeroValue4
 t5:=underlying5
 a5:=Tryz.isAgg5
 z5:=Tryz.sizeOf5
 v5:=Tryz.zeroValue5
 t9:=underlying9
 a9:=Tryz.isAgg9
 z9:=Tryz.sizeOf9
 v9:=Tryz.zeroValue9
 t46:=underlying169
 a46:=Tryz.isAgg169
 z46:=Tryz.sizeOf169
 v46:=Tryz.zeroValue169
 t51:=underlying216
 a51:=Tryz.isAgg216
 z51:=Tryz.sizeOf216
 v51:=Tryz.zeroValue216
 t146:=underlying346
 a146:=Tryz.isAgg346
 z146:=Tryz.sizeOf346
 v146:=Tryz.zeroValue346
 g1:=by kernel_rfl}
def Aa:Go.Shelf.Ren:=⟨fun|161=>309|231=>312|227=>313|233=>314|235=>315|228=>321|197=>322|151=>323|260=>330|152=>331|137=>338|119=>339|224=>289|225=>288|217=>287|266=>307|n=>n,fun|9=>9|4=>4|3=>3|5=>5|117=>355|116=>354|0=>0|124=>358|105=>367|21=>21|119=>395|46=>169|139=>398|138=>397|n=>n,fun|3=>3|4=>4|n=>n⟩
def ot:Go.Proofs.Lays.n161 ai Aa:={
 mixed:=by kernel_rfl
 f119:=func339.trans (BU _ (by kernel_rfl))
 f137:=func338.trans (BU _ (by kernel_rfl))
 f151:=func323.trans (BU _ (by kernel_rfl))
 f152:=func331.trans (BU _ (by kernel_rfl))
 f161:=func309.trans (BU _ (by kernel_rfl))
 f197:=func322.trans (BU _ (by kernel_rfl))
 f217:=func287.trans (BU _ (by kernel_rfl))
 f224:=func289.trans (BU _ (by kernel_rfl))
 f225:=func288.trans (BU _ (by kernel_rfl))
 f227:=func313.trans (BU _ (by kernel_rfl))
 f228:=func321.trans (BU _ (by kernel_rfl))
 f231:=func312.trans (BU _ (by kernel_rfl))
 f233:=func314.trans (BU _ (by kernel_rfl))
 f235:=func315.trans (BU _ (by kernel_rfl))
 f260:=func330.trans (BU _ (by kernel_rfl))
 f266:=func307.trans (BU _ (by kernel_rfl))
 t0:=underlying0
 a0:=Tryz.isAgg0
 z0:=Tryz.sizeOf0
 v0:=Tryz.zeroValue0
 t3:=underlying3
 a3:=Tryz.isAgg3
 z3:=Tryz.sizeOf3
 v3:=Tryz.zeroValue3
 t4:=underlying4
 a4:=Tryz.isAgg4
 z4:=Tryz.sizeOf4
 v4:=Tryz.zeroValue4
 t5:=underlying5
 a5:=Tryz.isAgg5
 z5:=Tryz.sizeOf5
 v5:=Tryz.zeroValue5
 t9:=underlying9
 a9:=Tryz.isAgg9
 z9:=Tryz.sizeOf9
 v9:=Tryz.zeroValue9
 t21:=underlying21
 a21:=Tryz.isAgg21
 z21:=Tryz.sizeOf21
 v21:=Tryz.zeroValue21
 t46:=underlying169
 a46:=Tryz.isAgg169
 z46:=Tryz.sizeOf169
 v46:=Tryz.zeroValue169
 t105:=underlying367
 a105:=Tryz.isAgg367
 z105:=Tryz.sizeOf367
 v105:=Tryz.zeroValue367
 t116:=underlying354
 a116:=Tryz.isAgg354
 z116:=Tryz.sizeOf354
 t117:=underlying355
 a117:=Tryz.isAgg355
 z117:=Tryz.sizeOf355
 v117:=Tryz.zeroValue355
 t119:=underlying395
 a119:=Tryz.isAgg395
 z119:=Tryz.sizeOf395
 t124:=underlying358
 a124:=Tryz.isAgg358
 z124:=Tryz.sizeOf358
 v124:=Tryz.zeroValue358
 t138:=underlying397
 a138:=Tryz.isAgg397
 z138:=Tryz.sizeOf397
 v138:=Tryz.zeroValue397
 t139:=underlying398
 a139:=Tryz.isAgg398
 z139:=Tryz.sizeOf398
 v139:=Tryz.zeroValue398
 g3:=by kernel_rfl
 g4:=by kernel_rfl}
end Go.Proofs
namespace Go.Hs
open Go.Proofs
set_option maxRecDepth 10000
structure CR(G:Nat->V):Prop extends b6 G where
 sg:∃ c,G 0=.view c (.agg (signsL.map V.AB))
 ml:∃ c m,G 1=.view c (.int .i64 m)
def R2(G s p):Spec () G 227 [.AB s,.AB p] Zm (λv _=>v=.bool (Xa p s)):=by refine Sy λX a _ _ g=>?_;obtain⟨x,y,rfl,f,d⟩:=g.two;obtain⟨b,rfl,rfl⟩:=f.str_inv;obtain⟨c,rfl,rfl⟩:=d.str_inv;refine(show Calls _ _ _ _ _ from Any.strings_HasPrefix pK b c _).mono ?_;rintro e w' ⟨rfl,rfl⟩;exact⟨_,_,rfl,aS _ _,.bool _,rfl⟩
def sv(G)(o:CR G)(s p)(r:s.length<1000000):Spec () G 232 [.AB s,.AB p] Zm (λv _=>v=.bool (Lib.contains s p)):=by refine Sy λX a _ n q=>?_;obtain⟨x,y,rfl,j,i⟩:=q.two;obtain⟨g,rfl,rfl⟩:=j.str_inv;obtain⟨h,rfl,rfl⟩:=i.str_inv;obtain⟨c,m,l⟩:=o.ml;have d:=(n 1).CV;rw[l]at d;obtain⟨f,k⟩:=d.view_inv;obtain⟨b,h2⟩:=k 0 (by simp[V.cells]);have h2:AI X _ _:=h2;rw[h2.int_inv]at b;refine(show Calls _ _ _ _ _ from Any.strings_Contains pe g h m _ (by rw[Lib.size_eq];omega) b).mono ?_;rintro e w' ⟨rfl,rfl⟩;exact⟨_,_,rfl,aS _ _,.bool _,rfl⟩
def JY(s:bS):Nat:=Wu Su s+if Xa [45,45] (s.drop (Wu Su s))then Wu Ox (s.drop (Wu Su s))else 0
def iG:∀ s,blk s=Wu Su s+blk (s.drop (Wu Su s))
 |[]=>rfl|c::r=>by rw[Ib];cases h:Su c;rw[AA zS];simp;rw[UB h,AF rfl,TG,iG r];omega
def jd(s):blk s=JY s+blk (s.drop (JY s)):=by unfold JY;rw[iG s];split;rename_i h;rw[Av h,NM];omega;rfl
def su{s}(h:JY s=0):blk s=0:=by
 unfold JY at h;have a:Wu Su s=0:=zo;rw[a,HB]at h
 match s with
 |[]=>rfl|c::r=>
  rw[Ib]at a;have b:Su c=ab:=by cases b:Su c;rfl;rw[b]at a;simp at a
  refine UA b ?_;cases d:Xa _ (c::r);rfl;have:=Oh d;rw[AF d]at h;omega
def p_(s):JY s<=s.length:=by have a:=jd s;have h2:=RB s;omega
def F8(G)(e:Yy G)(s:bS)(r:s.length<1000000):Spec () G 206 [s] Zm (blk s):=by
 refine Zo 0 29 _ func206 λX=>?_;refine Z1 ?_;refine Z1 ?_;refine BK ?_;refine Xw [0] [] (fun(k:Nat)=>[(3,k)]) (λ_=>[]) (λk=>k<=s.length/\blk s=k+blk (s.drop k)) (λk=>s.length-k) 0 ⟨CB _,zS⟩ zp zp ?_;rintro k ⟨q,p⟩ t l;refine BK ?_;have h:=Qy Su (s.drop k);rw[EJ]at h;have c:=jd (s.drop k);have b:=p_ (s.drop k);have d:JY _=0->blk (s.drop k)=0:=su;rw[EJ]at b;rw[NM]at c;refine Ym (zi q @BO) ?_;refine Zc e ?_ (s:=(Ik G e _ zO (AB5 e)));refine Yt (fun(_:Unit)=>st [(0,s),(3,k),(4,(JY (s.drop k)))] []) (λ_=>True) (λu a=>?_) ?_
 .have hkn:k+Wu Su (s.drop k)<=s.length:=zo;have i:qN ((k:Int)+(Wu Su (s.drop k):Nat))=((k+Wu Su (s.drop k):Nat):Int):=by rw[Xi zo zo];omega
  have j:JY (s.drop k)=Wu Su (s.drop k)+if Xa [45,45] (s.drop (k+Wu Su (s.drop k)))then Wu Ox (s.drop (k+Wu Su (s.drop k)))else 0:=by unfold JY;rw[NM]
  have g:=Qy Ox (s.drop (k+Wu Su (s.drop k)));rw[EJ]at g;generalize Wu Su (s.drop k)=n at h hkn i j g⊢;rw[j]at b a
  try clear j c d
  refine Ym (j3 hkn @BO i) ?_;refine Zc e ?_ (s:=(R2 G _ _));refine Zi rfl (λm=>?_) (λm=>?_);refine Ym (j3 hkn @BO i) ?_;refine Zn e ?_ (s:=(Ik G e _ zO (AB7 e)));rw[AF m]at b a;refine Zs ?_;exact a _ () trivial (AO (by refine Zs ?_;exact BU _ (by rw[Xi zo zo];omega)) zp);refine Z0 ?_;rw[AA (by simp[m])]at a;exact a _ () trivial qs
 intro _ _;generalize JY (s.drop k)=n at c b d⊢;refine Z1 ?_;refine Zi rfl (λf=>?_) (λf=>?_);have o:n=0:=by have f:((n:Int)==0)=ad:=f;simpa using f
 refine Z ?_;rw[p,d o]<;>rfl;have o:n≠0:=by have f:((n:Int)==0)=ab:=f;simpa using f
 refine Z1 ?_;refine l _ ⟨k+n,zo,⟨zo,by rw[p,c];omega⟩,AO (by refine Zs ?_;exact BU _ (by rw[Xi zo zo];omega)) zp⟩
def Oy{α:Type}(p:α->Bool)(l:List α):Int:=match l.findIdx? p with|some i=>(i:Int)|none => -1
def Td{α p l}{k:Nat}{x:α}(a:l[k]?=ae x)(d:∀ y∈l.take k,p y=ab)(c:p x=ad):Oy p l=k:=by
 have b:k<l.length:=by rw[DG]at a;exact a.1
 have:l.findIdx? p=ae k:=by
  rw[OS];have e:l[k]=x:=by rw[AY b]at a;exact EY a
  refine⟨b,by rw[e];exact c,λj g=>?_⟩;have f:l[j]∈l.take k:=by rw[List.mem_take_iff_getElem];exact⟨j,zo,rfl⟩
  rw[d _ f];simp
 unfold Oy;rw[this]
def Te{α p}{l:List α}(a:∀ y∈l,p y=ab):Oy p l = -1:=by
 have:l.findIdx? p=ah:=by rw[WC];exact a
 unfold Oy;rw[this]
def V3{α:Type}{p:α->Bool}{l:List α}{k x}(d:l[k]?=ae x)(c:∀ y∈l.take k,p y=ab)(b:p x=ab):∀ y∈l.take (k+1),p y=ab:=by intro y a;rw[IZ,d]at a;rcases DX.1 a with h|h;exact c y h;have:=zu h;rw[this];exact b
structure bZ(G:Nat->V)(f:FuncId)(cap:List V)(p:bS->Bool):Prop where
 en:Yf ai f=ad
 rc:cap.map (V.recol AH.ent)=cap
 sp:∀ c:bS,Spec ai G f (.AB c::cap) Zm (λv _=>v=.bool (p c))
def B2(G)(j:Yy G)(c s)(m:s.l.length<1000000){f cap p}(e:bZ G f cap p):Spec () G 233 [Za c 1 V.AB s,.func (.func f) [] cap] Zm (Oy p s.l):=by
 refine Zo 0 19 [.tmp 4] func233 λX=>?_;refine Z1 ?_;refine Z1 ?_;refine BK ?_;refine Z8 [0,1,7] [] s.l.length (λk  _=>[(8,k)]) (λ_ _=>[]) (λk _=>∀ y∈s.l.take k,p y=ab) 0 () qz zS zp zp ?_;intro k _ n d o g;refine Z1 ?_;refine Zz ?_;refine Zi rfl (λi=>?_) (λi=>?_);have a:=zu i;have b:=AY a;generalize s.l[k]=x at b;refine Z1 ?_;refine Ym b ?_;refine GS j e.en ?_;simp only[BI,e.rc,Ua];refine(e.sp x).mono ?_;rintro _ _ rfl;refine Zs ?_;refine Zi rfl (λh=>?_) (λh=>?_);refine Z ?_;rw[Td b d h];refine Z1 ?_;refine g _ ⟨a,(),V3 b d h,AO zw zp⟩;have a:k=s.l.length:=by simp at i;omega
 refine Z ?_;rw[a,B_]at d;rw[Te d]
def pp(G)(a:Yy G)(s t:bS):Spec () G 234 [t,.view .old s] Zm (Xa t s):=by refine Zo 0 7 _ func234 λX=>?_;refine Z1 ?_;refine Z1 ?_;refine Zc a ?_ (s:=(R2 G _ _));exact Zr
def AB9{G}(a:Yy G)(s:bS):bZ G 234 [.view .old s] (Xa · s):=⟨zk,rfl,pp G a s⟩
