/- A part. No condition. -/
import Derived.Test.YtegjlbpnpiigkaaGreatDoorP31
import Derived.Test.YtegjlbpnpiigkaaGreatDoorP32
import Derived.LaidEql
import Derived.Stop.Asserts
import Derived.RowKitTokens
import Derived.WalkKit
import Derived.BigCall
import Derived.BigGuard
import Derived.Lib.AppendIntMem
import Derived.Shelf.Strings.Search3
import Derived.Shelf.Strings.Trim
import Derived.Shelf.Strings.OnBuilder
set_option linter.all false
section
namespace Go.Hs
open Go.Proofs
set_option maxRecDepth 10000
theorem Zno(G:Nat->V)(s p:List UInt8):Spec Tryz.prog G 354 [.str s,.str p] Zk (λv _=>v=.str (Lib.trimPrefix s p)):=by
 refine Zwd λX cargs _ _ hA=>?_;obtain⟨x,y,rfl,hx,hy⟩:=hA.two;obtain⟨s',rfl,rfl⟩:=hx.str_inv;obtain⟨p',rfl,rfl⟩:=hy.str_inv;refine(show Calls Tryz.prog 354 _ _ _ from Any.strings_TrimPrefix Zv4 s' p' X.w).mono ?_;rintro e w' ⟨rfl,rfl⟩;exact⟨_,_,rfl,RowKit.Below.refl _ _,.str _ _ rfl,zS⟩
theorem u8_inj{c:UInt8}(h:c.toNat=48):c=48:=UInt8.toNat_inj.1 h
theorem Z2u(G:Nat->V)(hG:GOk G)(s:List UInt8)(hs:s.length<1000000):Spec Tryz.prog G 346 [.str s] Zk (λv _=>v=.bool (Zci s)):=by
 refine Zo 0 34 [.tmp 2] Tryz.func346 λX=>?_;refine Z1 ?_;refine Z1 ?_;refine Zn hG ?_ (s:=(Zno G s [45]));have htl:=Lib.trimPrefix_le s [45];have hW:Zci s=((Lib.trimPrefix s [45]).all Zoa&&(s==[48]||(!(Lib.trimPrefix s [45]==[]) && !((Lib.trimPrefix s [45]).head? == some 48)))):=rfl;generalize Lib.trimPrefix s [45]=t at htl hW⊢;refine Zs ?_;refine Z1 ?_;refine AW.block ?_
 refine Z9 t.length (λk (_:Unit)=>st [(0,.str s),(3,.str t),(7,.str t),(8,.int .i64 t.length),(9,.int .i64 k)] []) (λk _=>(t.take k).all Zoa=true) 0 () (Nat.zero_le _) rfl
  (Za zp zp) ?_
 intro k _ hk hI L2 hL2;refine Z1 ?_;refine Z4 ?_;refine Zi rfl (λh4=>?_) (λh4=>?_)
 have hk1:k<t.length:=by have:=of_decide_eq_true h4;omega
 refine Z0 ?_;have g2:=List.getElem?_eq_getElem hk1
 have htk:t.take (k+1)=t.take k++[t[k]]:=by rw[List.take_succ_eq_append_getElem hk1]
 generalize t[k]=c at g2 htk;refine Z1f g2 ?_
 by_cases hc:Zoa c=true
 have hc2:48<=c.toNat/\c.toNat<=57:=by unfold Zoa at hc;simpa using hc
 have b1:decide ((c.toNat:Int)<48)=false:=zF;have b2:decide ((c.toNat:Int)>57)=false:=zF;refine Z1f (zi g2 (zi b1 b2)) ?_;refine Zbb rfl ?_;refine Z1 ?_;refine hL2 _ ⟨hk1,(),by rw[htk,List.all_append,hI];simp[hc],Za (by refine Zs ?_;exact congrArg _ (by rw[w64 zo zo];omega)) zp⟩
 have hall:t.all Zoa=false:=by
  rw[<- List.take_append_drop (k+1) t,List.all_append,htk,List.all_append];have:Zoa c=false:=zu hc;simp[this]
 have hc2:c.toNat<48\/57<c.toNat:=by
  rcases Nat.lt_or_ge c.toNat 48 with h|h
  exact .inl h
  rcases Nat.lt_or_ge 57 c.toNat with h1|h1
  exact .inr h1;exact absurd (by unfold Zoa;simp[h,h1]) hc
 rcases hc2 with h|h
 have b1:decide ((c.toNat:Int)<48)=true:=zT;refine Z1f (zi g2 b1) ?_;refine Zi rfl (λh7=>?_) (λh7=>?_);refine Z ?_
 rw[hW,hall]<;>rfl
 cases h7;have b1:decide ((c.toNat:Int)<48)=false:=zF;have b2:decide ((c.toNat:Int)>57)=true:=zT;refine Z1f (zi g2 (zi b1 b2)) ?_;refine Zi rfl (λh7=>?_) (λh7=>?_);refine Z ?_
 rw[hW,hall]<;>rfl
 cases h7
 have hk1:k=t.length:=by have:=of_decide_eq_false h4;omega
 refine Z0 ?_;rw[hk1,List.take_length]at hI;rw[hI]at hW
 by_cases h0:s=[48]
 have b1:(s==[48])=true:=zu h0;refine Zf b1 ?_
 rw[hW,b1]<;>rfl
 .have b1:(s==[48])=false:=zu h0
  cases t with
  |nil=>
   refine Zf b1 ?_
   rw[hW,b1]<;>rfl
  |cons c r=>
   refine Zf b1 ?_;rw[hW,b1]
   by_cases hc:c=48
   subst hc;rfl;have h1:((c.toNat:Int) != 48)=true:=bne_iff_ne.2 λh=>hc (u8_inj zo);have h2:((c::r).head? == some 48)=false:=zu hc
   rw[h1,h2]<;>rfl
end Go.Hs
end

section
namespace Go.Proofs.NumD
open Go.RowKit Go.Extern.Stop Go.Stop Go.Extern
set_option maxRecDepth 100000
theorem Z2na(v:Value)(w:World):(Extern.ReflectliteType.typeOf #[.iface 426 v]).run Tryz.prog w=.ok (.iface 404 (.agg #[.pointer (some ⟨9,426,none⟩)])) w:=by kernel_rfl
theorem Znw (w:World):((Extern.ReflectliteType.method fun t=>do Extern.Rtype.noPackHeld "Comparable" t;pure (.bool (← typeInfo t).comparable)) #[.agg #[.pointer (some ⟨9,426,none⟩)]]).run Tryz.prog w = .ok (.bool true) w:=by kernel_rfl
theorem Zhr(w:World):(callFunc 412 #[.agg #[.pointer (some ⟨9,426,none⟩)]]).run Tryz.prog w=.ok (.value (.bool true)) w:=by
 rw [@run_callFunc_extern Tryz.prog 412 _ (Extern.ReflectliteType.method fun t=>do Extern.Rtype.noPackHeld "Comparable" t;pure (.bool (← typeInfo t).comparable)) Tryz.func412 (by kernel_rfl) (by kernel_rfl) (by kernel_rfl) (by kernel_rfl),Znw]
 try rfl
theorem Zwk (v:Value) (w:World):(Go.method 570 404 v "Comparable").run Tryz.prog w = .ok (412,v) w:=by kernel_rfl
theorem isComp:(Tryz.prog.info? 426).map (·.comparable)=some true:=by kernel_rfl
theorem isSize:(Tryz.prog.info? 428).map (·.size)=some 1:=by kernel_rfl
theorem noIsW(v:Value)(xT:TypeId)(w:World):(Instr.typeAssert (.iface 400 v) xT 406 true).run Tryz.prog w=.ok (.tuple #[.nilIface,.bool false]) w:=run_typeAssert_lacksB Tryz.underlying406 (by kernel_rfl) (by kernel_rfl) v xT w
theorem Z5ba(v:Value)(xT:TypeId)(w:World):(Instr.typeAssert (.iface 400 v) xT 409 true).run Tryz.prog w=.ok (.tuple #[.iface 400 v,.bool true]) w:=run_typeAssert_hasB Tryz.underlying409 (by kernel_rfl) v xT w
theorem Zlw (v:Value) (w:World):(Go.method 570 400 v "Unwrap").run Tryz.prog w = .ok (408,v) w:=by kernel_rfl
theorem is_nil(b:Addr)(w:World):
  Calls Tryz.prog 348 #[.nilIface,.iface 426 (.pointer (some b))] w λe w'=>e=.returned (.bool false)/\w'=w:=by
 have hn:=run_eql_iface_nil_left (P:=Tryz.prog) w 426 (.pointer (some b)) Tryz.underlying379
 go_enter Tryz.func348,Tryz.ntmps348
 go_wp2
 go_ret
 exact⟨rfl,rfl⟩
theorem is_num(pb po:Nat)(b:Addr)(w:World)(h1:w.cell? ⟨pb,po+2,none⟩=some (.iface 426 (.pointer (some b)))):
  Calls Tryz.prog 348 #[.iface 400 (.pointer (some ⟨pb,po,none⟩)),.iface 426 (.pointer (some b))] w λe w'=>e=.returned (.bool true)/\w'=w:=by
 obtain⟨i,hi,hcmp⟩:=Option.map_eq_some_iff.1 isComp;obtain⟨j,hj,hjs⟩:=Option.map_eq_some_iff.1 isSize;have h8 := @run_callFunc_extern Tryz.prog 357 _ Extern.ReflectliteType.typeOf Tryz.func357 (by kernel_rfl) (by kernel_rfl) (by kernel_rfl) (by kernel_rfl);have hC:=Zhr;have tT:=Z2na;have mR:=Zwk;have nW:=noIsW;have uW:=Z5ba;have mU:=Zlw;have heq:=run_eql_iface_ptr_same (P:=Tryz.prog) w b Tryz.underlying379 Tryz.underlying426 hi hcmp hj;have hty:=run_eql_iface_types (P:=Tryz.prog) 400 426 (.pointer (some ⟨pb,po,none⟩)) (.pointer (some b)) Tryz.underlying379 (by decide) w
 go_enter Tryz.func348,Tryz.ntmps348
 go_wp2
 refine wp_loop_rounds 2 ?_;rw[rounds_succ]
 go_wp2
 rw[rounds_succ]
 go_wp2
 go_ret
 exact⟨rfl,rfl⟩
end Go.Proofs.NumD
end

section
namespace Go.Hs
open Go.Proofs Go.RowKit
set_option maxRecDepth 100000
theorem Zys(s:ByteArray)(hs:s.data.toList.length<1000000)(w:World):Calls Tryz.prog 346 #[.string s] w λe w'=>e=.returned (.bool (Zci s.data.toList))/\Below w.heap.size w w':=by
 refine((Z2u gTop gTop_ok s.data.toList hs).toCalls (Zw7 s)).mono ?_;rintro e w' ⟨c,v,H',Y,rfl,hr,rfl,hb⟩;exact⟨by rw[hr.bool_inv],hb⟩
theorem Zd2(s:ByteArray)(hs:s.data.toList.length<1000000)(v:Int)(h:Lib.parseIntB 64 s.data.toList=.ok v)(w:World):Calls Tryz.prog 347 #[.string s,.int .i64 10,.int .i64 64] w λe w'=>e=.returned (.tuple #[.int .i64 v,.nilIface])/\Below w.heap.size w w':=by
 refine(show Calls Tryz.prog 347 _ _ _ from Any.strconv_ParseInt_10_at64_ok Zuq s (by rw[Lib.size_eq];omega) v h w).mono ?_;rintro e w' ⟨rfl,rfl|⟨t,rfl⟩⟩;exact⟨rfl,Below.refl _ _⟩;exact⟨rfl,Lib.bytesWorld_below _ _ _⟩
theorem Z6q(s:ByteArray)(hs:s.data.toList.length<1000000)(h:Lib.parseIntB 64 s.data.toList=.range)(te:TypeId)(pe:Value)(w:World)(hv:w.cell? ⟨2,0,none⟩=some (.iface te pe)):Calls Tryz.prog 347 #[.string s,.int .i64 10,.int .i64 64] w λe w'=>∃ N n,e=.returned (.tuple #[.int .i64 n,.iface 400 (.pointer (some ⟨N,0,none⟩))])/\w'.cell? ⟨N,2,none⟩=some (.iface te pe)/\Below w.heap.size w w':=by
 refine(show Calls Tryz.prog 347 _ _ _ from Any.strconv_ParseInt_10_at64_range Zuq s (by rw[Lib.size_eq];omega) h _ w hv (.inr ⟨_,_,rfl⟩)).mono ?_;rintro e w' ⟨N,rfl,_,hN,hb⟩;exact⟨N,_,rfl,by simp[World.cell?,hN],hb⟩
theorem Zc2(s:ByteArray)(hs:s.data.toList.length<1000000)(b:Addr)(w:World)(hv:w.cell? ⟨2,0,none⟩=some (.iface 426 (.pointer (some b)))):
  Calls Tryz.prog 340 #[.string s] w λe w'=>e=.returned (.tuple #[.int .i64 (Zec s.data.toList).1,.int .i64 (Zec s.data.toList).2])/\Below w.heap.size w w':=by
 have hw:=Zys s hs;have lt:=Lib.lt_of_cell hv
 rcases Zaha s.data.toList with ⟨h1,h2⟩|⟨h1,⟨v,h2,h3⟩|⟨h2,h3⟩⟩
 .rw[h1]at hw
  rw[h2]
  try clear h1 h2
  go_enter Tryz.func340,Tryz.ntmps340
  go_wp2_with (go_at_call 346;refine(hw _).mono ?_;rintro e W1 ⟨rfl,hb1⟩)
  go_wp2
  go_ret2
  exact⟨rfl,hb1⟩
 .rw[h1]at hw
  rw[h3];have hp:=Zd2 s hs v h2;have hn:=NumD.is_nil b
  try clear h1 h2 h3
  go_enter Tryz.func340,Tryz.ntmps340
  go_wp2_with (go_at_call 346;refine(hw _).mono ?_;rintro e W1 ⟨rfl,hb1⟩)
  have hv1:W1.cell? ⟨2,0,none⟩=some (.iface 426 (.pointer (some b))):=(hb1.cell lt).trans hv
  go_wp2_with (go_at_call 347;refine(hp _).mono ?_)
  rintro e W2 ⟨rfl,hb2⟩;have hv2:W2.cell? ⟨2,0,none⟩=some (.iface 426 (.pointer (some b))):=(hb2.cell (Nat.lt_of_lt_of_le lt hb1.size)).trans hv1
  go_wp2_with (go_at_call 348;refine(hn _).mono ?_;rintro e W3 ⟨rfl,rfl⟩)
  go_wp2
  go_ret2
  exact⟨rfl,hb1.trans (hb2.mono hb1.size)⟩
 .rw[h1]at hw
  rw[h3];have hp:=Z6q s hs h2 426 (.pointer (some b))
  try clear h1 h2 h3
  go_enter Tryz.func340,Tryz.ntmps340
  go_wp2_with (go_at_call 346;refine(hw _).mono ?_;rintro e W1 ⟨rfl,hb1⟩)
  have hv1:W1.cell? ⟨2,0,none⟩=some (.iface 426 (.pointer (some b))):=(hb1.cell lt).trans hv
  go_wp2_with (go_at_call 347;refine(hp _ ?_).mono ?_)
  exact hv1;rintro e W2 ⟨N,n,rfl,hN,hb2⟩;have hv2:W2.cell? ⟨2,0,none⟩=some (.iface 426 (.pointer (some b))):=(hb2.cell (Nat.lt_of_lt_of_le lt hb1.size)).trans hv1;have hq:=NumD.is_num N 0 b W2 hN
  go_wp2_with (go_at_call 348;refine hq.mono ?_;rintro e W3 ⟨rfl,rfl⟩)
  go_wp2
  go_ret2
  exact⟨rfl,hb1.trans (hb2.mono hb1.size)⟩
end Go.Hs
end

section
namespace Go.Hs
open Go.Proofs
set_option maxRecDepth 10000
structure GNum(G:Nat->V):Prop where
 ok:GOk G
 er:∃ c c' v,G 2=.view c (.iface 426 (.view c' v))
 tab:∃ c,G 6=.view c (.agg (Lib.pow10Tab.map (V.int .u64)))
theorem Zl2(G:Nat->V)(hG:GNum G)(s:List UInt8)(hs:s.length<1000000):Spec Tryz.prog G 340 [.str s] Zk (λv _=>v=encR (Zec s)):=by
 refine Zwd λX cargs _ hX hA=>?_;obtain⟨x,rfl,hx⟩:=hA.one;obtain⟨s',rfl,rfl⟩:=hx.str_inv;obtain⟨c,c',v,he⟩:=hG.er;have h0:=(hX 2).rel;rw[he]at h0;obtain⟨f,hf⟩:=h0.view_inv;obtain⟨h1,h2⟩:=hf 0 (by simp[V.cells]);have h2:Rel X (f 0) (.iface 426 (.view c' v)):=h2;generalize f 0=y at h1 h2
 cases h2 with
 |iface t x _ h3=>
  cases h3 with
  |view _ _ b off f' _ _=>
   refine(Zc2 s' hs ⟨b,off,none⟩ X.w h1).mono ?_;rintro e w' ⟨rfl,hb⟩;refine⟨_,_,rfl,hb,?_,rfl⟩;refine .tuple _ _ rfl λi h1 h2=>?_
   match i,h1 with
   |0,_=>exact .int _ _
   |1,_=>exact .int _ _
end Go.Hs
end

section
namespace Go.Proofs
open Go.Shelf
def Zvq:Go.Shelf.Ren:=⟨fun|99=>249|206=>277|n=>n,fun|9=>9|4=>4|3=>3|n=>n,fun|n=>n⟩
theorem Zx4:Go.Proofs.Lays.n99 Tryz.prog Zvq:={
 mixed:=by kernel_rfl
 f99:=Tryz.func249.trans (congrArg some (by kernel_rfl))
 f206:=Tryz.func277.trans (congrArg some (by kernel_rfl))
 t3:=Tryz.underlying3
 a3:=Tryz.isAgg3
 z3:=Tryz.sizeOf3
 v3:=Tryz.zeroValue3
 t4:=Tryz.underlying4
 a4:=Tryz.isAgg4
 z4:=Tryz.sizeOf4
 v4:=Tryz.zeroValue4
 t9:=Tryz.underlying9
 a9:=Tryz.isAgg9
 z9:=Tryz.sizeOf9
 v9:=Tryz.zeroValue9 }
def Zwq:Go.Shelf.Ren:=⟨fun|144=>254|143=>278|219=>295|217=>317|225=>318|224=>319|267=>320|266=>337|314=>338|n=>n,fun|9=>9|4=>4|3=>3|5=>5|46=>219|146=>365|51=>263|n=>n,fun|1=>1|n=>n⟩
theorem Zy4:Go.Proofs.Lays.n144 Tryz.prog Zwq:={
 mixed:=by kernel_rfl
 f143:=Tryz.func278.trans (congrArg some (by kernel_rfl))
 f144:=Tryz.func254.trans (congrArg some (by kernel_rfl))
 f217:=Tryz.func317.trans (congrArg some (by kernel_rfl))
 f219:=Tryz.func295.trans (congrArg some (by kernel_rfl))
 f224:=Tryz.func319.trans (congrArg some (by kernel_rfl))
 f225:=Tryz.func318.trans (congrArg some (by kernel_rfl))
 f266:=Tryz.func337.trans (congrArg some (by kernel_rfl))
 f267:=Tryz.func320.trans (congrArg some (by kernel_rfl))
 f314:=Tryz.func338.trans (congrArg some (by kernel_rfl))
 t3:=Tryz.underlying3
 a3:=Tryz.isAgg3
 z3:=Tryz.sizeOf3
 v3:=Tryz.zeroValue3
 t4:=Tryz.underlying4
 a4:=Tryz.isAgg4
 z4:=Tryz.sizeOf4
 v4:=Tryz.zeroValue4
 t5:=Tryz.underlying5
 a5:=Tryz.isAgg5
 z5:=Tryz.sizeOf5
 v5:=Tryz.zeroValue5
 t9:=Tryz.underlying9
 a9:=Tryz.isAgg9
 z9:=Tryz.sizeOf9
 v9:=Tryz.zeroValue9
 t46:=Tryz.underlying219
 a46:=Tryz.isAgg219
 z46:=Tryz.sizeOf219
 v46:=Tryz.zeroValue219
 t51:=Tryz.underlying263
 a51:=Tryz.isAgg263
 z51:=Tryz.sizeOf263
 v51:=Tryz.zeroValue263
 t146:=Tryz.underlying365
 a146:=Tryz.isAgg365
 z146:=Tryz.sizeOf365
 v146:=Tryz.zeroValue365
 g1:=by kernel_rfl }
def Zsq:Go.Shelf.Ren:=⟨fun|161=>339|231=>342|227=>343|233=>344|235=>345|228=>351|197=>352|151=>353|260=>360|152=>361|137=>368|119=>369|224=>319|225=>318|217=>317|266=>337|n=>n,fun|9=>9|4=>4|3=>3|5=>5|117=>374|116=>373|0=>0|124=>377|105=>386|21=>21|119=>414|46=>219|139=>417|138=>416|n=>n,fun|3=>3|4=>4|n=>n⟩
theorem Zw4:Go.Proofs.Lays.n161 Tryz.prog Zsq:={
 mixed:=by kernel_rfl
 f119:=Tryz.func369.trans (congrArg some (by kernel_rfl))
 f137:=Tryz.func368.trans (congrArg some (by kernel_rfl))
 f151:=Tryz.func353.trans (congrArg some (by kernel_rfl))
 f152:=Tryz.func361.trans (congrArg some (by kernel_rfl))
 f161:=Tryz.func339.trans (congrArg some (by kernel_rfl))
 f197:=Tryz.func352.trans (congrArg some (by kernel_rfl))
 f217:=Tryz.func317.trans (congrArg some (by kernel_rfl))
 f224:=Tryz.func319.trans (congrArg some (by kernel_rfl))
 f225:=Tryz.func318.trans (congrArg some (by kernel_rfl))
 f227:=Tryz.func343.trans (congrArg some (by kernel_rfl))
 f228:=Tryz.func351.trans (congrArg some (by kernel_rfl))
 f231:=Tryz.func342.trans (congrArg some (by kernel_rfl))
 f233:=Tryz.func344.trans (congrArg some (by kernel_rfl))
 f235:=Tryz.func345.trans (congrArg some (by kernel_rfl))
 f260:=Tryz.func360.trans (congrArg some (by kernel_rfl))
 f266:=Tryz.func337.trans (congrArg some (by kernel_rfl))
 t0:=Tryz.underlying0
 a0:=Tryz.isAgg0
 z0:=Tryz.sizeOf0
 v0:=Tryz.zeroValue0
 t3:=Tryz.underlying3
 a3:=Tryz.isAgg3
 z3:=Tryz.sizeOf3
 v3:=Tryz.zeroValue3
 t4:=Tryz.underlying4
 a4:=Tryz.isAgg4
 z4:=Tryz.sizeOf4
 v4:=Tryz.zeroValue4
 t5:=Tryz.underlying5
 a5:=Tryz.isAgg5
 z5:=Tryz.sizeOf5
 v5:=Tryz.zeroValue5
 t9:=Tryz.underlying9
 a9:=Tryz.isAgg9
 z9:=Tryz.sizeOf9
 v9:=Tryz.zeroValue9
 t21:=Tryz.underlying21
 a21:=Tryz.isAgg21
 z21:=Tryz.sizeOf21
 v21:=Tryz.zeroValue21
 t46:=Tryz.underlying219
 a46:=Tryz.isAgg219
 z46:=Tryz.sizeOf219
 v46:=Tryz.zeroValue219
 t105:=Tryz.underlying386
 a105:=Tryz.isAgg386
 z105:=Tryz.sizeOf386
 v105:=Tryz.zeroValue386
 t116:=Tryz.underlying373
 a116:=Tryz.isAgg373
 z116:=Tryz.sizeOf373
 t117:=Tryz.underlying374
 a117:=Tryz.isAgg374
 z117:=Tryz.sizeOf374
 v117:=Tryz.zeroValue374
 t119:=Tryz.underlying414
 a119:=Tryz.isAgg414
 z119:=Tryz.sizeOf414
 t124:=Tryz.underlying377
 a124:=Tryz.isAgg377
 z124:=Tryz.sizeOf377
 v124:=Tryz.zeroValue377
 t138:=Tryz.underlying416
 a138:=Tryz.isAgg416
 z138:=Tryz.sizeOf416
 v138:=Tryz.zeroValue416
 t139:=Tryz.underlying417
 a139:=Tryz.isAgg417
 z139:=Tryz.sizeOf417
 v139:=Tryz.zeroValue417
 g3:=by kernel_rfl
 g4:=by kernel_rfl }
end Go.Proofs
end

section
namespace Go.Hs
open Go.Proofs
set_option maxRecDepth 10000
structure GExp(G:Nat->V):Prop extends GNum G where
 sg:∃ c,G 0=.view c (.agg (signsL.map V.str))
 ml:∃ c m,G 1=.view c (.int .i64 m)
theorem Zfe(G:Nat->V)(s p:List UInt8):Spec Tryz.prog G 249 [.str s,.str p] Zk (λv _=>v=.bool (Zra p s)):=by
 refine Zwd λX cargs _ _ hA=>?_;obtain⟨x,y,rfl,hx,hy⟩:=hA.two;obtain⟨s',rfl,rfl⟩:=hx.str_inv;obtain⟨p',rfl,rfl⟩:=hy.str_inv;refine(show Calls Tryz.prog 249 _ _ _ from Any.strings_HasPrefix Zx4 s' p' X.w).mono ?_;rintro e w' ⟨rfl,rfl⟩;exact⟨_,_,rfl,RowKit.Below.refl _ _,.bool _,rfl⟩
theorem Zau(G:Nat->V)(hG:GExp G)(s p:List UInt8)(hs:s.length<1000000):Spec Tryz.prog G 254 [.str s,.str p] Zk (λv _=>v=.bool (Lib.contains s p)):=by
 refine Zwd λX cargs _ hX hA=>?_;obtain⟨x,y,rfl,hx,hy⟩:=hA.two;obtain⟨s',rfl,rfl⟩:=hx.str_inv;obtain⟨p',rfl,rfl⟩:=hy.str_inv;obtain⟨c,m,he⟩:=hG.ml;have h0:=(hX 1).rel;rw[he]at h0;obtain⟨f,hf⟩:=h0.view_inv;obtain⟨h1,h2⟩:=hf 0 (by simp[V.cells]);have h2:Rel X (f 0) (.int .i64 m):=h2;rw[h2.int_inv]at h1;refine(show Calls Tryz.prog 254 _ _ _ from Any.strings_Contains Zy4 s' p' m X.w (by rw[Lib.size_eq];omega) h1).mono ?_;rintro e w' ⟨rfl,rfl⟩;exact⟨_,_,rfl,RowKit.Below.refl _ _,.bool _,rfl⟩
def blk1(s:List UInt8):Nat:=Zwc Zfj s+if Zra [45,45] (s.drop (Zwc Zfj s))then Zwc Z1n (s.drop (Zwc Zfj s))else 0
theorem Zvja:∀ s:List UInt8,blk s=Zwc Zfj s+blk (s.drop (Zwc Zfj s))
 |[]=>rfl
 |c::r=>by
  rw[Zgk]
  cases h:Zfj c with
  |true=>rw[Zm9 h,if_pos rfl,List.drop_succ_cons,Zvja r];omega
  |false=>rw[if_neg zS];simp
theorem Zl9(s:List UInt8):blk s=blk1 s+blk (s.drop (blk1 s)):=by
 unfold blk1;rw[Zvja s]
 split
 rename_i h;rw[Zhu h,List.drop_drop];omega;rfl
theorem Zxja{s:List UInt8}(h:blk1 s=0):blk s=0:=by
 unfold blk1 at h;have h1:Zwc Zfj s=0:=zo;rw[h1,List.drop_zero]at h
 match s with
 |[]=>rfl
 |c::r=>
  rw[Zgk]at h1
  have hc:Zfj c=false:=by
   cases hc:Zfj c with
   |false=>rfl
   |true=>rw[hc]at h1;simp at h1
  refine Zk9 hc ?_
  cases hp:Zra [45,45] (c::r)with
  |false=>rfl
  |true=>have:=Z4g hp;rw[if_pos hp]at h;omega
theorem blk1_le(s:List UInt8):blk1 s<=s.length:=by
 have h1:=Zl9 s;have h2:=Zhx s;omega
theorem Z3m(G:Nat->V)(hG:GOk G)(s:List UInt8)(hs:s.length<1000000):Spec Tryz.prog G 218 [.str s] Zk (λv _=>v=.int .i64 (blk s)):=by
 refine Zo 0 29 [.tmp 2] Tryz.func218 λX=>?_;refine Z1 ?_;refine Z1 ?_;refine AW.block ?_
 refine Zpb (fun(k:Nat)=>st [(0,.str s),(3,.int .i64 k)] []) (λk=>k<=s.length/\blk s=k+blk (s.drop k)) (λk=>s.length-k) 0 ⟨Nat.zero_le _,zS⟩
  (Za zp zp) ?_
 rintro k ⟨hk,hR⟩ L2 hL2;refine AW.block ?_;have hn1:=Zdf Zfj (s.drop k);rw[List.length_drop]at hn1;have hk2:=Zl9 (s.drop k);have hk3:=blk1_le (s.drop k);have hk4:blk1 (s.drop k)=0->blk (s.drop k)=0:=Zxja;rw[List.length_drop]at hk3;rw[List.drop_drop]at hk2;refine Z1f (zi hk @Nat.le_refl) ?_;refine Zc hG ?_ (s:=(Zuk G hG _ zO (fBl hG)));refine Zda (fun(_:Unit)=>st [(0,.str s),(3,.int .i64 k),(4,.int .i64 (blk1 (s.drop k)))] []) (λ_=>True) (λK3 hK3=>?_) ?_
 .have hkn:k+Zwc Zfj (s.drop k)<=s.length:=zo
  have hw:IntKind.i64.wrap ((k:Int)+(Zwc Zfj (s.drop k):Nat))=((k+Zwc Zfj (s.drop k):Nat):Int):=by rw[w64 zo zo];omega
  have hb:blk1 (s.drop k)=Zwc Zfj (s.drop k)+if Zra [45,45] (s.drop (k+Zwc Zfj (s.drop k)))then Zwc Z1n (s.drop (k+Zwc Zfj (s.drop k)))else 0:=by
   unfold blk1;rw[List.drop_drop]
  have hn2:=Zdf Z1n (s.drop (k+Zwc Zfj (s.drop k)));rw[List.length_drop]at hn2;generalize Zwc Zfj (s.drop k)=n at hn1 hkn hw hb hn2⊢;rw[hb]at hk3 hK3
  try clear hb hk2 hk4
  refine Z1f (zi hkn (zi @Nat.le_refl hw)) ?_;refine Zc hG ?_ (s:=(Zfe G _ _));refine Zi rfl (λh4=>?_) (λh4=>?_);refine Z1f (zi hkn (zi @Nat.le_refl hw)) ?_;refine Zn hG ?_ (s:=(Zuk G hG _ zO (fNoNl hG)));rw[if_pos h4]at hk3 hK3;refine Zs ?_;exact hK3 _ () trivial (Za (by refine Zs ?_;exact congrArg _ (by rw[w64 zo zo];omega)) zp);refine Z0 ?_;rw[if_neg (by simp[h4])]at hK3;exact hK3 _ () trivial (Za zp zp)
 intro _ _;generalize blk1 (s.drop k)=n at hk2 hk3 hk4⊢;refine Z1 ?_;refine Zi rfl (λh6=>?_) (λh6=>?_)
 have hn:n=0:=by have h6:((n:Int)==0)=true:=h6;simpa using h6
 refine Z ?_
 rw[hR,hk4 hn]<;>rfl
 have hn:n≠0:=by have h6:((n:Int)==0)=false:=h6;simpa using h6
 refine Z1 ?_;refine hL2 _ ⟨k+n,zo,⟨zo,by rw[hR,hk2];omega⟩,Za (by refine Zs ?_;exact congrArg _ (by rw[w64 zo zo];omega)) zp⟩
def Zwu{α : Type}(p : α -> Bool)(l:List α):Int:=match l.findIdx? p with|some i=>(i:Int)|none => -1
theorem Zif{α : Type}{p : α -> Bool}{l:List α}{k:Nat}{x : α}(hg:l[k]?=some x)(hn:∀ y∈l.take k,p y=false)(hp:p x=true):Zwu p l=k:=by
 have hk:k<l.length:=by rw[List.getElem?_eq_some_iff]at hg;exact hg.1
 have:l.findIdx? p=some k:=by
  rw[List.findIdx?_eq_some_iff_getElem]
  have e:l[k]=x:=by rw[List.getElem?_eq_getElem hk]at hg;exact Option.some.inj hg
  refine⟨hk,by rw[e];exact hp,λj hj=>?_⟩
  have hm:l[j]∈l.take k:=by rw[List.mem_take_iff_getElem];exact⟨j,zo,rfl⟩
  rw[hn _ hm];simp
 unfold Zwu;rw[this]
theorem Zjf{α : Type}{p : α -> Bool}{l:List α}(hn:∀ y∈l,p y=false):Zwu p l = -1:=by
 have:l.findIdx? p=none:=by rw[List.findIdx?_eq_none_iff];exact hn
 unfold Zwu;rw[this]
theorem Zce{α : Type}{p : α -> Bool}{l:List α}{k:Nat}{x : α}(hg:l[k]?=some x)(hn:∀ y∈l.take k,p y=false)(hp:p x=false):∀ y∈l.take (k+1),p y=false:=by
 intro y hy;rw[List.take_add_one,hg]at hy
 rcases List.mem_append.1 hy with h|h
 exact hn y h;have:y=x:=zu h;rw[this];exact hp
structure FnS(G:Nat->V)(f:FuncId)(cap:List V)(p:List UInt8->Bool):Prop where
 en:Zia Tryz.prog f=true
 rc:cap.map (V.recol Col.ent)=cap
 sp:∀ c:List UInt8,Spec Tryz.prog G f (.str c::cap) Zk (λv _=>v=.bool (p c))
theorem Zwo(G:Nat->V)(hG:GOk G)(c:Col)(s:Sl (List UInt8))(hs:s.l.length<1000000){f:FuncId}{cap:List V}{p:List UInt8->Bool}(hf:FnS G f cap p):
  Spec Tryz.prog G 255 [Zb c 1 V.str s,.func (.func f) [] cap] Zk (λv _=>v=.int .i64 (Zwu p s.l)):=by
 refine Zo 0 19 [.tmp 4] Tryz.func255 λX=>?_;refine Z1 ?_;refine Z1 ?_;refine AW.block ?_
 refine Z9 s.l.length (λk (_:Unit)=>st [(0,Zb c 1 V.str s),(1,.func (.func f) [] cap),(7,.int .i64 s.l.length),(8,.int .i64 k)] []) (λk _=>∀ y∈s.l.take k,p y=false) 0 () (Nat.zero_le _) zS
  (Za zp zp) ?_
 intro k _ hk hR L2 hL2;refine Z1 ?_;refine Z4 ?_;refine Zi rfl (λh4=>?_) (λh4=>?_);have hk1:k<s.l.length:=zu h4;have hg:=List.getElem?_eq_getElem hk1;generalize s.l[k]=x at hg;refine Z1 ?_;refine Z1f hg ?_;refine CallA.pure hG hf.en ?_;simp only[List.map_cons,hf.rc,Zoc];refine(hf.sp x).mono ?_;rintro _ _ rfl;refine Zs ?_;refine Zi rfl (λh6=>?_) (λh6=>?_);refine Z ?_;rw[Zif hg hR h6];refine Z1 ?_;refine hL2 _ ⟨hk1,(),Zce hg hR h6,Za zw zp⟩
 have hk1:k=s.l.length:=by simp at h4;omega
 refine Z ?_;rw[hk1,List.take_length]at hR;rw[Zjf hR]
theorem Zdia(G:Nat->V)(hG:GOk G)(s t:List UInt8):Spec Tryz.prog G 256 [.str t,.view .old (.str s)] Zk (λv _=>v=.bool (Zra t s)):=by
 refine Zo 0 7 [.tmp 3] Tryz.func256 λX=>?_;refine Z1 ?_;refine Z1 ?_;refine Zc hG ?_ (s:=(Zfe G _ _));exact Zr
theorem fPre{G:Nat->V}(hG:GOk G)(s:List UInt8):FnS G 256 [.view .old (.str s)] (Zra · s):=⟨by kernel_rfl,rfl,Zdia G hG s⟩
end Go.Hs
end
