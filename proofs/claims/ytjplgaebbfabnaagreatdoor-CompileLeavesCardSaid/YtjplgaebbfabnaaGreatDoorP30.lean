/- A part. No condition. -/
import Derived.Test.YtjplgaebbfabnaaGreatDoorP28
import Derived.Test.YtjplgaebbfabnaaGreatDoorP29
import Derived.LaidEql
import Derived.Stop.Asserts
import Derived.RowKitTokens
import Derived.WalkKit
import Derived.BigCall
import Derived.BigGuard
import Derived.Lib.AppendIntMem
import Derived.Shelf.Strings.Search3
import Derived.Shelf.Strings.Trim
import Derived.Shelf.Strings.OnBuilder
set_option linter.all false
section
namespace Go.Hs
open Go.Proofs
set_option maxRecDepth 10000
theorem Fy(G:Nat->V)(s p:List UInt8):Spec Tryz.prog G 277 [.str s,.str p] Zj (λv _=>v=.str (Lib.trimPrefix s p)):=by
 refine T6 λX a _ _ g=>?_;obtain⟨x,y,rfl,f,d⟩:=g.two;obtain⟨b,rfl,rfl⟩:=f.str_inv;obtain⟨c,rfl,rfl⟩:=d.str_inv;refine(show Calls Tryz.prog 277 _ _ _ from Any.strings_TrimPrefix Zzm b c X.w).mono ?_;rintro e w' ⟨rfl,rfl⟩;exact⟨_,_,rfl,RowKit.Below.refl _ _,.str _ _ rfl,zS⟩
theorem u8_inj{c:UInt8}(h:c.toNat=48):c=48:=UInt8.toNat_inj.1 h
theorem Zwb(G:Nat->V)(x:Y6 G)(s:List UInt8)(z:s.length<1000000):Spec Tryz.prog G 271 [.str s] Zj (λv _=>v=.bool (P7 s)):=by
 refine Zo 0 34 [.tmp 2] Tryz.func271 λX=>?_;refine Z1 ?_;refine Z1 ?_;refine Zn x ?_ (s:=(Fy G s [45]));have n:=Lib.trimPrefix_le s [45];have g:P7 s=((Lib.trimPrefix s [45]).all Vc&&(s==[48]||(!(Lib.trimPrefix s [45]==[]) && !((Lib.trimPrefix s [45]).head? == some 48)))):=rfl;generalize Lib.trimPrefix s [45]=t at n g⊢;refine Zs ?_;refine Z1 ?_;refine AW.block ?_
 refine Yc t.length (λk (_:Unit)=>st [(0,.str s),(3,.str t),(7,.str t),(8,.int .i64 t.length),(9,.int .i64 k)] []) (λk _=>(t.take k).all Vc=true) 0 () (Nat.zero_le _) rfl
  (Weak.st zp zp) ?_
 intro k _ A p B o;refine Z1 ?_;refine Z6 ?_;refine Z2 rfl (λq=>?_) (λq=>?_)
 have b:k<t.length:=by have:=of_decide_eq_true q;omega
 refine Z0 ?_;have m:=List.getElem?_eq_getElem b
 have f:t.take (k+1)=t.take k++[t[k]]:=by rw[List.take_succ_eq_append_getElem b]
 generalize t[k]=c at m f;refine Xm m ?_
 by_cases d:Vc c=true
 have i:48<=c.toNat/\c.toNat<=57:=by unfold Vc at d;simpa using d
 have a:decide ((c.toNat:Int)<48)=false:=zF;have u:decide ((c.toNat:Int)>57)=false:=zF;refine Xm (zi m (zi a u)) ?_;refine Ve rfl ?_;refine Z1 ?_;refine o _ ⟨b,(),by rw[f,List.all_append,p];simp[d],Weak.st (by refine Zs ?_;exact congrArg _ (by rw[Wy zo zo];omega)) zp⟩
 have e:t.all Vc=false:=by
  rw[<- List.take_append_drop (k+1) t,List.all_append,f,List.all_append];have:Vc c=false:=zu d;simp[this]
 have i:c.toNat<48\/57<c.toNat:=by
  rcases Nat.lt_or_ge c.toNat 48 with h|h
  exact .inl h
  rcases Nat.lt_or_ge 57 c.toNat with l|l
  exact .inr l;exact absurd (by unfold Vc;simp[h,l]) d
 rcases i with h|h
 have a:decide ((c.toNat:Int)<48)=true:=zT;refine Xm (zi m a) ?_;refine Z2 rfl (λj=>?_) (λj=>?_);refine Z ?_
 rw[g,e]<;>rfl
 cases j;have a:decide ((c.toNat:Int)<48)=false:=zF;have u:decide ((c.toNat:Int)>57)=true:=zT;refine Xm (zi m (zi a u)) ?_;refine Z2 rfl (λj=>?_) (λj=>?_);refine Z ?_
 rw[g,e]<;>rfl
 cases j
 have b:k=t.length:=by have:=of_decide_eq_false q;omega
 refine Z0 ?_;rw[b,List.take_length]at p;rw[p]at g
 by_cases w:s=[48]
 have a:(s==[48])=true:=zu w;refine Zf a ?_
 rw[g,a]<;>rfl
 .have a:(s==[48])=false:=zu w
  cases t with
  |nil=>
   refine Zf a ?_
   rw[g,a]<;>rfl
  |cons c r=>
   refine Zf a ?_;rw[g,a]
   by_cases d:c=48
   subst d;rfl;have l:((c.toNat:Int) != 48)=true:=bne_iff_ne.2 λh=>d (u8_inj zo);have y:((c::r).head? == some 48)=false:=zu d
   rw[l,y]<;>rfl
end Go.Hs
end

section
namespace Go.Proofs.NumD
open Go.RowKit Go.Extern.Stop Go.Stop Go.Extern
set_option maxRecDepth 100000
theorem Zr7(v:Value)(w:World):(Extern.ReflectliteType.typeOf #[.iface 376 v]).run Tryz.prog w=.ok (.iface 354 (.agg #[.pointer (some ⟨9,376,none⟩)])) w:=by kernel_rfl
theorem Z3c (w:World):((Extern.ReflectliteType.method fun t=>do Extern.Rtype.noPackHeld "Comparable" t;pure (.bool (← typeInfo t).comparable)) #[.agg #[.pointer (some ⟨9,376,none⟩)]]).run Tryz.prog w = .ok (.bool true) w:=by kernel_rfl
theorem Bm(w:World):(callFunc 336 #[.agg #[.pointer (some ⟨9,376,none⟩)]]).run Tryz.prog w=.ok (.value (.bool true)) w:=by
 rw [@run_callFunc_extern Tryz.prog 336 _ (Extern.ReflectliteType.method fun t=>do Extern.Rtype.noPackHeld "Comparable" t;pure (.bool (← typeInfo t).comparable)) Tryz.func336 (by kernel_rfl) (by kernel_rfl) (by kernel_rfl) (by kernel_rfl),Z3c]
 try rfl
theorem K4 (v:Value) (w:World):(Go.method 522 354 v "Comparable").run Tryz.prog w = .ok (336,v) w:=by kernel_rfl
theorem isComp:(Tryz.prog.info? 376).map (·.comparable)=some true:=by kernel_rfl
theorem isSize:(Tryz.prog.info? 378).map (·.size)=some 1:=by kernel_rfl
theorem noIsW(v:Value)(a:TypeId)(w:World):(Instr.typeAssert (.iface 350 v) a 356 true).run Tryz.prog w=.ok (.tuple #[.nilIface,.bool false]) w:=run_typeAssert_lacksB Tryz.underlying356 (by kernel_rfl) (by kernel_rfl) v a w
theorem Zbt(v:Value)(a:TypeId)(w:World):(Instr.typeAssert (.iface 350 v) a 359 true).run Tryz.prog w=.ok (.tuple #[.iface 350 v,.bool true]) w:=run_typeAssert_hasB Tryz.underlying359 (by kernel_rfl) v a w
theorem Zuc (v:Value) (w:World):(Go.method 522 350 v "Unwrap").run Tryz.prog w = .ok (332,v) w:=by kernel_rfl
theorem is_nil(b:Addr)(w:World):
  Calls Tryz.prog 273 #[.nilIface,.iface 376 (.pointer (some b))] w λe w'=>e=.returned (.bool false)/\w'=w:=by
 have a:=run_eql_iface_nil_left (P:=Tryz.prog) w 376 (.pointer (some b)) Tryz.underlying334
 go_enter Tryz.func273,Tryz.ntmps273
 go_wp2
 go_ret
 exact⟨rfl,rfl⟩
theorem is_num(d c:Nat)(b:Addr)(w:World)(t:w.cell? ⟨d,c+2,none⟩=some (.iface 376 (.pointer (some b)))):
  Calls Tryz.prog 273 #[.iface 350 (.pointer (some ⟨d,c,none⟩)),.iface 376 (.pointer (some b))] w λe w'=>e=.returned (.bool true)/\w'=w:=by
 obtain⟨i,k,a⟩:=Option.map_eq_some_iff.1 isComp;obtain⟨j,h,g⟩:=Option.map_eq_some_iff.1 isSize;have s := @run_callFunc_extern Tryz.prog 280 _ Extern.ReflectliteType.typeOf Tryz.func280 (by kernel_rfl) (by kernel_rfl) (by kernel_rfl) (by kernel_rfl);have r:=Bm;have n:=Zr7;have q:=K4;have o:=noIsW;have m:=Zbt;have p:=Zuc;have l:=run_eql_iface_ptr_same (P:=Tryz.prog) w b Tryz.underlying334 Tryz.underlying376 k a h;have f:=run_eql_iface_types (P:=Tryz.prog) 350 376 (.pointer (some ⟨d,c,none⟩)) (.pointer (some b)) Tryz.underlying334 (by decide) w
 go_enter Tryz.func273,Tryz.ntmps273
 go_wp2
 refine wp_loop_rounds 2 ?_;rw[rounds_succ]
 go_wp2
 rw[rounds_succ]
 go_wp2
 go_ret
 exact⟨rfl,rfl⟩
end Go.Proofs.NumD
end

section
namespace Go.Hs
open Go.Proofs Go.RowKit
set_option maxRecDepth 100000
theorem Ae(s:ByteArray)(a:s.data.toList.length<1000000)(w:World):Calls Tryz.prog 271 #[.string s] w λe w'=>e=.returned (.bool (P7 s.data.toList))/\Below w.heap.size w w':=by
 refine((Zwb gTop Zfba s.data.toList a).toCalls (Z3p s)).mono ?_;rintro e w' ⟨c,v,f,Y,rfl,b,rfl,d⟩;exact⟨by rw[b.bool_inv],d⟩
theorem Zaj(s:ByteArray)(a:s.data.toList.length<1000000)(v:Int)(h:Lib.parseIntB 64 s.data.toList=.ok v)(w:World):Calls Tryz.prog 272 #[.string s,.int .i64 10,.int .i64 64] w λe w'=>e=.returned (.tuple #[.int .i64 v,.nilIface])/\Below w.heap.size w w':=by
 refine(show Calls Tryz.prog 272 _ _ _ from Any.strconv_ParseInt_10_at64_ok Fr s (by rw[Lib.size_eq];omega) v h w).mono ?_;rintro e w' ⟨rfl,rfl|⟨t,rfl⟩⟩;exact⟨rfl,Below.refl _ _⟩;exact⟨rfl,Lib.bytesWorld_below _ _ _⟩
theorem D3(s:ByteArray)(g:s.data.toList.length<1000000)(h:Lib.parseIntB 64 s.data.toList=.range)(a:TypeId)(b:Value)(w:World)(c:w.cell? ⟨2,0,none⟩=some (.iface a b)):Calls Tryz.prog 272 #[.string s,.int .i64 10,.int .i64 64] w λe w'=>∃ N n,e=.returned (.tuple #[.int .i64 n,.iface 350 (.pointer (some ⟨N,0,none⟩))])/\w'.cell? ⟨N,2,none⟩=some (.iface a b)/\Below w.heap.size w w':=by
 refine(show Calls Tryz.prog 272 _ _ _ from Any.strconv_ParseInt_10_at64_range Fr s (by rw[Lib.size_eq];omega) h _ w c (.inr ⟨_,_,rfl⟩)).mono ?_;rintro e w' ⟨N,rfl,_,f,d⟩;exact⟨N,_,rfl,by simp[World.cell?,f],d⟩
theorem Z9i(s:ByteArray)(o:s.data.toList.length<1000000)(b:Addr)(w:World)(m:w.cell? ⟨2,0,none⟩=some (.iface 376 (.pointer (some b)))):
  Calls Tryz.prog 265 #[.string s] w λe w'=>e=.returned (.tuple #[.int .i64 (Sw s.data.toList).1,.int .i64 (Sw s.data.toList).2])/\Below w.heap.size w w':=by
 have h:=Ae s o;have lt:=Lib.lt_of_cell m
 rcases Z2z s.data.toList with ⟨g,f⟩|⟨g,⟨v,f,i⟩|⟨f,i⟩⟩
 .rw[g]at h
  rw[f]
  try clear g f
  go_enter Tryz.func265,Tryz.ntmps265
  go_wp2_with (go_at_call 271;refine(h _).mono ?_;rintro e k ⟨rfl,a⟩)
  go_wp2
  go_ret2
  exact⟨rfl,a⟩
 .rw[g]at h
  rw[i];have p:=Zaj s o v f;have r:=NumD.is_nil b
  try clear g f i
  go_enter Tryz.func265,Tryz.ntmps265
  go_wp2_with (go_at_call 271;refine(h _).mono ?_;rintro e k ⟨rfl,a⟩)
  have d:k.cell? ⟨2,0,none⟩=some (.iface 376 (.pointer (some b))):=(a.cell lt).trans m
  go_wp2_with (go_at_call 272;refine(p _).mono ?_)
  rintro e j ⟨rfl,c⟩;have l:j.cell? ⟨2,0,none⟩=some (.iface 376 (.pointer (some b))):=(c.cell (Nat.lt_of_lt_of_le lt a.size)).trans d
  go_wp2_with (go_at_call 273;refine(r _).mono ?_;rintro e u ⟨rfl,rfl⟩)
  go_wp2
  go_ret2
  exact⟨rfl,a.trans (c.mono a.size)⟩
 .rw[g]at h
  rw[i];have p:=D3 s o f 376 (.pointer (some b))
  try clear g f i
  go_enter Tryz.func265,Tryz.ntmps265
  go_wp2_with (go_at_call 271;refine(h _).mono ?_;rintro e k ⟨rfl,a⟩)
  have d:k.cell? ⟨2,0,none⟩=some (.iface 376 (.pointer (some b))):=(a.cell lt).trans m
  go_wp2_with (go_at_call 272;refine(p _ ?_).mono ?_)
  exact d;rintro e j ⟨N,n,rfl,t,c⟩;have l:j.cell? ⟨2,0,none⟩=some (.iface 376 (.pointer (some b))):=(c.cell (Nat.lt_of_lt_of_le lt a.size)).trans d;have q:=NumD.is_num N 0 b j t
  go_wp2_with (go_at_call 273;refine q.mono ?_;rintro e u ⟨rfl,rfl⟩)
  go_wp2
  go_ret2
  exact⟨rfl,a.trans (c.mono a.size)⟩
end Go.Hs
end

section
namespace Go.Hs
open Go.Proofs
set_option maxRecDepth 10000
structure GNum(G:Nat->V):Prop where
 ok:Y6 G
 er:∃ c c' v,G 2=.view c (.iface 376 (.view c' v))
 tab:∃ c,G 6=.view c (.agg (Lib.pow10Tab.map (V.int .u64)))
theorem Zmj(G:Nat->V)(q:GNum G)(s:List UInt8)(l:s.length<1000000):Spec Tryz.prog G 265 [.str s] Zj (λv _=>v=encR (Sw s)):=by
 refine T6 λX g _ p r=>?_;obtain⟨x,rfl,k⟩:=r.one;obtain⟨j,rfl,rfl⟩:=k.str_inv;obtain⟨c,u,v,n⟩:=q.er;have h:=(p 2).rel;rw[n]at h;obtain⟨f,m⟩:=h.view_inv;obtain⟨d,a⟩:=m 0 (by simp[V.cells]);have a:Rel X (f 0) (.iface 376 (.view u v)):=a;generalize f 0=y at d a
 cases a with
 |iface t x _ h3=>
  cases h3 with
  |view _ _ b off f' _ _=>
   refine(Z9i j l ⟨b,off,none⟩ X.w d).mono ?_;rintro e w' ⟨rfl,o⟩;refine⟨_,_,rfl,o,?_,rfl⟩;refine .tuple _ _ rfl λi d a=>?_
   match i,d with
   |0,_=>exact .int _ _
   |1,_=>exact .int _ _
end Go.Hs
end

section
namespace Go.Proofs
open Go.Shelf
def Ee:Go.Shelf.Ren:=⟨fun|99=>173|206=>217|n=>n,fun|9=>9|4=>4|3=>3|n=>n,fun|n=>n⟩
theorem Z1m:Go.Proofs.Lays.n99 Tryz.prog Ee:={
 mixed:=by kernel_rfl
 f99:=Tryz.func173.trans (congrArg some (by kernel_rfl))
 f206:=Tryz.func217.trans (congrArg some (by kernel_rfl))
 t3:=Tryz.underlying3
 a3:=Tryz.isAgg3
 z3:=Tryz.sizeOf3
 v3:=Tryz.zeroValue3
 t4:=Tryz.underlying4
 a4:=Tryz.isAgg4
 z4:=Tryz.sizeOf4
 v4:=Tryz.zeroValue4
 t9:=Tryz.underlying9
 a9:=Tryz.isAgg9
 z9:=Tryz.sizeOf9
 v9:=Tryz.zeroValue9 }
def Eg:Go.Shelf.Ren:=⟨fun|144=>178|143=>218|219=>236|217=>249|225=>250|224=>251|267=>252|266=>262|314=>263|n=>n,fun|9=>9|4=>4|3=>3|5=>5|46=>217|146=>319|51=>259|n=>n,fun|1=>1|n=>n⟩
theorem Z2m:Go.Proofs.Lays.n144 Tryz.prog Eg:={
 mixed:=by kernel_rfl
 f143:=Tryz.func218.trans (congrArg some (by kernel_rfl))
 f144:=Tryz.func178.trans (congrArg some (by kernel_rfl))
 f217:=Tryz.func249.trans (congrArg some (by kernel_rfl))
 f219:=Tryz.func236.trans (congrArg some (by kernel_rfl))
 f224:=Tryz.func251.trans (congrArg some (by kernel_rfl))
 f225:=Tryz.func250.trans (congrArg some (by kernel_rfl))
 f266:=Tryz.func262.trans (congrArg some (by kernel_rfl))
 f267:=Tryz.func252.trans (congrArg some (by kernel_rfl))
 f314:=Tryz.func263.trans (congrArg some (by kernel_rfl))
 t3:=Tryz.underlying3
 a3:=Tryz.isAgg3
 z3:=Tryz.sizeOf3
 v3:=Tryz.zeroValue3
 t4:=Tryz.underlying4
 a4:=Tryz.isAgg4
 z4:=Tryz.sizeOf4
 v4:=Tryz.zeroValue4
 t5:=Tryz.underlying5
 a5:=Tryz.isAgg5
 z5:=Tryz.sizeOf5
 v5:=Tryz.zeroValue5
 t9:=Tryz.underlying9
 a9:=Tryz.isAgg9
 z9:=Tryz.sizeOf9
 v9:=Tryz.zeroValue9
 t46:=Tryz.underlying217
 a46:=Tryz.isAgg217
 z46:=Tryz.sizeOf217
 v46:=Tryz.zeroValue217
 t51:=Tryz.underlying259
 a51:=Tryz.isAgg259
 z51:=Tryz.sizeOf259
 v51:=Tryz.zeroValue259
 t146:=Tryz.underlying319
 a146:=Tryz.isAgg319
 z146:=Tryz.sizeOf319
 v146:=Tryz.zeroValue319
 g1:=by kernel_rfl }
def Eb:Go.Shelf.Ren:=⟨fun|161=>264|231=>267|227=>268|233=>269|235=>270|228=>274|197=>275|151=>276|260=>282|152=>283|137=>290|119=>291|224=>251|225=>250|217=>249|266=>262|n=>n,fun|9=>9|4=>4|3=>3|5=>5|117=>329|116=>328|0=>0|124=>332|105=>338|21=>21|119=>364|46=>217|139=>367|138=>366|n=>n,fun|3=>3|4=>4|n=>n⟩
theorem Z0m:Go.Proofs.Lays.n161 Tryz.prog Eb:={
 mixed:=by kernel_rfl
 f119:=Tryz.func291.trans (congrArg some (by kernel_rfl))
 f137:=Tryz.func290.trans (congrArg some (by kernel_rfl))
 f151:=Tryz.func276.trans (congrArg some (by kernel_rfl))
 f152:=Tryz.func283.trans (congrArg some (by kernel_rfl))
 f161:=Tryz.func264.trans (congrArg some (by kernel_rfl))
 f197:=Tryz.func275.trans (congrArg some (by kernel_rfl))
 f217:=Tryz.func249.trans (congrArg some (by kernel_rfl))
 f224:=Tryz.func251.trans (congrArg some (by kernel_rfl))
 f225:=Tryz.func250.trans (congrArg some (by kernel_rfl))
 f227:=Tryz.func268.trans (congrArg some (by kernel_rfl))
 f228:=Tryz.func274.trans (congrArg some (by kernel_rfl))
 f231:=Tryz.func267.trans (congrArg some (by kernel_rfl))
 f233:=Tryz.func269.trans (congrArg some (by kernel_rfl))
 f235:=Tryz.func270.trans (congrArg some (by kernel_rfl))
 f260:=Tryz.func282.trans (congrArg some (by kernel_rfl))
 f266:=Tryz.func262.trans (congrArg some (by kernel_rfl))
 t0:=Tryz.underlying0
 a0:=Tryz.isAgg0
 z0:=Tryz.sizeOf0
 v0:=Tryz.zeroValue0
 t3:=Tryz.underlying3
 a3:=Tryz.isAgg3
 z3:=Tryz.sizeOf3
 v3:=Tryz.zeroValue3
 t4:=Tryz.underlying4
 a4:=Tryz.isAgg4
 z4:=Tryz.sizeOf4
 v4:=Tryz.zeroValue4
 t5:=Tryz.underlying5
 a5:=Tryz.isAgg5
 z5:=Tryz.sizeOf5
 v5:=Tryz.zeroValue5
 t9:=Tryz.underlying9
 a9:=Tryz.isAgg9
 z9:=Tryz.sizeOf9
 v9:=Tryz.zeroValue9
 t21:=Tryz.underlying21
 a21:=Tryz.isAgg21
 z21:=Tryz.sizeOf21
 v21:=Tryz.zeroValue21
 t46:=Tryz.underlying217
 a46:=Tryz.isAgg217
 z46:=Tryz.sizeOf217
 v46:=Tryz.zeroValue217
 t105:=Tryz.underlying338
 a105:=Tryz.isAgg338
 z105:=Tryz.sizeOf338
 v105:=Tryz.zeroValue338
 t116:=Tryz.underlying328
 a116:=Tryz.isAgg328
 z116:=Tryz.sizeOf328
 t117:=Tryz.underlying329
 a117:=Tryz.isAgg329
 z117:=Tryz.sizeOf329
 v117:=Tryz.zeroValue329
 t119:=Tryz.underlying364
 a119:=Tryz.isAgg364
 z119:=Tryz.sizeOf364
 t124:=Tryz.underlying332
 a124:=Tryz.isAgg332
 z124:=Tryz.sizeOf332
 v124:=Tryz.zeroValue332
 t138:=Tryz.underlying366
 a138:=Tryz.isAgg366
 z138:=Tryz.sizeOf366
 v138:=Tryz.zeroValue366
 t139:=Tryz.underlying367
 a139:=Tryz.isAgg367
 z139:=Tryz.sizeOf367
 v139:=Tryz.zeroValue367
 g3:=by kernel_rfl
 g4:=by kernel_rfl }
end Go.Proofs
end

section
namespace Go.Hs
open Go.Proofs
set_option maxRecDepth 10000
structure GExp(G:Nat->V):Prop extends GNum G where
 sg:∃ c,G 0=.view c (.agg (signsL.map V.str))
 ml:∃ c m,G 1=.view c (.int .i64 m)
theorem S2(G:Nat->V)(s p:List UInt8):Spec Tryz.prog G 173 [.str s,.str p] Zj (λv _=>v=.bool (Xs p s)):=by
 refine T6 λX a _ _ g=>?_;obtain⟨x,y,rfl,f,d⟩:=g.two;obtain⟨b,rfl,rfl⟩:=f.str_inv;obtain⟨c,rfl,rfl⟩:=d.str_inv;refine(show Calls Tryz.prog 173 _ _ _ from Any.strings_HasPrefix Z1m b c X.w).mono ?_;rintro e w' ⟨rfl,rfl⟩;exact⟨_,_,rfl,RowKit.Below.refl _ _,.bool _,rfl⟩
theorem Aw(G:Nat->V)(q:GExp G)(s p:List UInt8)(t:s.length<1000000):Spec Tryz.prog G 178 [.str s,.str p] Zj (λv _=>v=.bool (Lib.contains s p)):=by
 refine T6 λX b _ o r=>?_;obtain⟨x,y,rfl,k,j⟩:=r.two;obtain⟨h,rfl,rfl⟩:=k.str_inv;obtain⟨i,rfl,rfl⟩:=j.str_inv;obtain⟨c,m,n⟩:=q.ml;have g:=(o 1).rel;rw[n]at g;obtain⟨f,l⟩:=g.view_inv;obtain⟨d,a⟩:=l 0 (by simp[V.cells]);have a:Rel X (f 0) (.int .i64 m):=a;rw[a.int_inv]at d;refine(show Calls Tryz.prog 178 _ _ _ from Any.strings_Contains Z2m h i m X.w (by rw[Lib.size_eq];omega) d).mono ?_;rintro e w' ⟨rfl,rfl⟩;exact⟨_,_,rfl,RowKit.Below.refl _ _,.bool _,rfl⟩
def Bq(s:List UInt8):Nat:=Vp Ri s+if Xs [45,45] (s.drop (Vp Ri s))then Vp H7 (s.drop (Vp Ri s))else 0
theorem Zly:∀ s:List UInt8,blk s=Vp Ri s+blk (s.drop (Vp Ri s))
 |[]=>rfl
 |c::r=>by
  rw[Hi]
  cases h:Ri c with
  |true=>rw[Zs8 h,if_pos rfl,List.drop_succ_cons,Zly r];omega
  |false=>rw[if_neg zS];simp
theorem Zzk(s:List UInt8):blk s=Bq s+blk (s.drop (Bq s)):=by
 unfold Bq;rw[Zly s]
 split
 rename_i h;rw[Zmy h,List.drop_drop];omega;rfl
theorem Zf2{s:List UInt8}(h:Bq s=0):blk s=0:=by
 unfold Bq at h;have a:Vp Ri s=0:=zo;rw[a,List.drop_zero]at h
 match s with
 |[]=>rfl
 |c::r=>
  rw[Hi]at a
  have b:Ri c=false:=by
   cases b:Ri c with
   |false=>rfl
   |true=>rw[b]at a;simp at a
  refine Zr8 b ?_
  cases d:Xs [45,45] (c::r)with
  |false=>rfl
  |true=>have:=J1 d;rw[if_pos d]at h;omega
theorem Z2ba(s:List UInt8):Bq s<=s.length:=by
 have b:=Zzk s;have a:=Z8t s;omega
theorem Ia(G:Nat->V)(e:Y6 G)(s:List UInt8)(r:s.length<1000000):Spec Tryz.prog G 111 [.str s] Zj (λv _=>v=.int .i64 (blk s)):=by
 refine Zo 0 29 [.tmp 2] Tryz.func111 λX=>?_;refine Z1 ?_;refine Z1 ?_;refine AW.block ?_
 refine Vs (fun(k:Nat)=>st [(0,.str s),(3,.int .i64 k)] []) (λk=>k<=s.length/\blk s=k+blk (s.drop k)) (λk=>s.length-k) 0 ⟨Nat.zero_le _,zS⟩
  (Weak.st zp zp) ?_
 rintro k ⟨q,p⟩ t l;refine AW.block ?_;have h:=Nl Ri (s.drop k);rw[List.length_drop]at h;have c:=Zzk (s.drop k);have b:=Z2ba (s.drop k);have d:Bq (s.drop k)=0->blk (s.drop k)=0:=Zf2;rw[List.length_drop]at b;rw[List.drop_drop]at c;refine Xm (zi q @Nat.le_refl) ?_;refine Zc e ?_ (s:=(Ls G e _ zO (fBl e)));refine Wq (fun(_:Unit)=>st [(0,.str s),(3,.int .i64 k),(4,.int .i64 (Bq (s.drop k)))] []) (λ_=>True) (λK3 a=>?_) ?_
 .have hkn:k+Vp Ri (s.drop k)<=s.length:=zo
  have i:IntKind.i64.wrap ((k:Int)+(Vp Ri (s.drop k):Nat))=((k+Vp Ri (s.drop k):Nat):Int):=by rw[Wy zo zo];omega
  have j:Bq (s.drop k)=Vp Ri (s.drop k)+if Xs [45,45] (s.drop (k+Vp Ri (s.drop k)))then Vp H7 (s.drop (k+Vp Ri (s.drop k)))else 0:=by
   unfold Bq;rw[List.drop_drop]
  have g:=Nl H7 (s.drop (k+Vp Ri (s.drop k)));rw[List.length_drop]at g;generalize Vp Ri (s.drop k)=n at h hkn i j g⊢;rw[j]at b a
  try clear j c d
  refine Xm (zi hkn (zi @Nat.le_refl i)) ?_;refine Zc e ?_ (s:=(S2 G _ _));refine Z2 rfl (λm=>?_) (λm=>?_);refine Xm (zi hkn (zi @Nat.le_refl i)) ?_;refine Zn e ?_ (s:=(Ls G e _ zO (fNoNl e)));rw[if_pos m]at b a;refine Zs ?_;exact a _ () trivial (Weak.st (by refine Zs ?_;exact congrArg _ (by rw[Wy zo zo];omega)) zp);refine Z0 ?_;rw[if_neg (by simp[m])]at a;exact a _ () trivial (Weak.st zp zp)
 intro _ _;generalize Bq (s.drop k)=n at c b d⊢;refine Z1 ?_;refine Z2 rfl (λf=>?_) (λf=>?_)
 have o:n=0:=by have f:((n:Int)==0)=true:=f;simpa using f
 refine Z ?_
 rw[p,d o]<;>rfl
 have o:n≠0:=by have f:((n:Int)==0)=false:=f;simpa using f
 refine Z1 ?_;refine l _ ⟨k+n,zo,⟨zo,by rw[p,c];omega⟩,Weak.st (by refine Zs ?_;exact congrArg _ (by rw[Wy zo zo];omega)) zp⟩
def Rz{α : Type}(p : α -> Bool)(l:List α):Int:=match l.findIdx? p with|some i=>(i:Int)|none => -1
theorem V2{α : Type}{p : α -> Bool}{l:List α}{k:Nat}{x : α}(a:l[k]?=some x)(d:∀ y∈l.take k,p y=false)(c:p x=true):Rz p l=k:=by
 have b:k<l.length:=by rw[List.getElem?_eq_some_iff]at a;exact a.1
 have:l.findIdx? p=some k:=by
  rw[List.findIdx?_eq_some_iff_getElem]
  have e:l[k]=x:=by rw[List.getElem?_eq_getElem b]at a;exact Option.some.inj a
  refine⟨b,by rw[e];exact c,λj g=>?_⟩
  have f:l[j]∈l.take k:=by rw[List.mem_take_iff_getElem];exact⟨j,zo,rfl⟩
  rw[d _ f];simp
 unfold Rz;rw[this]
theorem V3{α : Type}{p : α -> Bool}{l:List α}(a:∀ y∈l,p y=false):Rz p l = -1:=by
 have:l.findIdx? p=none:=by rw[List.findIdx?_eq_none_iff];exact a
 unfold Rz;rw[this]
theorem take_all{α : Type}{p : α -> Bool}{l:List α}{k:Nat}{x : α}(d:l[k]?=some x)(c:∀ y∈l.take k,p y=false)(b:p x=false):∀ y∈l.take (k+1),p y=false:=by
 intro y a;rw[List.take_add_one,d]at a
 rcases List.mem_append.1 a with h|h
 exact c y h;have:y=x:=zu h;rw[this];exact b
structure FnS(G:Nat->V)(f:FuncId)(cap:List V)(p:List UInt8->Bool):Prop where
 en:Z7 Tryz.prog f=true
 rc:cap.map (V.recol Col.ent)=cap
 sp:∀ c:List UInt8,Spec Tryz.prog G f (.str c::cap) Zj (λv _=>v=.bool (p c))
theorem F3(G:Nat->V)(j:Y6 G)(c:Col)(s:Sl (List UInt8))(m:s.l.length<1000000){f:FuncId}{cap:List V}{p:List UInt8->Bool}(e:FnS G f cap p):
  Spec Tryz.prog G 179 [Za c 1 V.str s,.func (.func f) [] cap] Zj (λv _=>v=.int .i64 (Rz p s.l)):=by
 refine Zo 0 19 [.tmp 4] Tryz.func179 λX=>?_;refine Z1 ?_;refine Z1 ?_;refine AW.block ?_
 refine Yc s.l.length (λk (_:Unit)=>st [(0,Za c 1 V.str s),(1,.func (.func f) [] cap),(7,.int .i64 s.l.length),(8,.int .i64 k)] []) (λk _=>∀ y∈s.l.take k,p y=false) 0 () (Nat.zero_le _) zS
  (Weak.st zp zp) ?_
 intro k _ n d o g;refine Z1 ?_;refine Z6 ?_;refine Z2 rfl (λi=>?_) (λi=>?_);have a:k<s.l.length:=zu i;have b:=List.getElem?_eq_getElem a;generalize s.l[k]=x at b;refine Z1 ?_;refine Xm b ?_;refine CallA.pure j e.en ?_;simp only[List.map_cons,e.rc,Vf];refine(e.sp x).mono ?_;rintro _ _ rfl;refine Zs ?_;refine Z2 rfl (λh=>?_) (λh=>?_);refine Z ?_;rw[V2 b d h];refine Z1 ?_;refine g _ ⟨a,(),take_all b d h,Weak.st zw zp⟩
 have a:k=s.l.length:=by simp at i;omega
 refine Z ?_;rw[a,List.take_length]at d;rw[V3 d]
theorem Z20(G:Nat->V)(a:Y6 G)(s t:List UInt8):Spec Tryz.prog G 180 [.str t,.view .old (.str s)] Zj (λv _=>v=.bool (Xs t s)):=by
 refine Zo 0 7 [.tmp 3] Tryz.func180 λX=>?_;refine Z1 ?_;refine Z1 ?_;refine Zc a ?_ (s:=(S2 G _ _));exact Zr
theorem fPre{G:Nat->V}(a:Y6 G)(s:List UInt8):FnS G 180 [.view .old (.str s)] (Xs · s):=⟨zk,rfl,Z20 G a s⟩
end Go.Hs
end
