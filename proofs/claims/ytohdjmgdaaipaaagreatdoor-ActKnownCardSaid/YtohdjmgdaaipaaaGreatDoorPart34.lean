/- Part 34 of the proof of a statement of seat YtohdjmgdaaipaaaGreatDoor: HsHNumWritten HsHNumIs HsHNumParse HsHNumText HsHExprShelf HsHLex2 HsHLex3. -/
import Derived.Test.YtohdjmgdaaipaaaGreatDoorPart32
import Derived.Test.YtohdjmgdaaipaaaGreatDoorPart33
import Derived.LaidEql
import Derived.Stop.Asserts
import Derived.RowKitTokens
import Derived.WalkKit
import Derived.BigCall
import Derived.BigGuard
import Derived.Lib.AppendIntMem
import Derived.Test.YtohdjmgdaaipaaaGreatDoorChecked
import Derived.Shelf.Strings.Prefix
import Derived.Shelf.Strings.Search3
import Derived.Shelf.Strings.Trim
import Derived.Shelf.Strings.OnBuilder
import Derived.Ground.NamesProg
set_option linter.unusedSimpArgs false
set_option linter.unusedVariables false
section
namespace Go.Hs
open Go.Proofs
set_option maxRecDepth 10000
theorem Z4n (G:Nat→V) (s p:List UInt8):Spec Tryz.prog G 304 [.str s,.str p] Zl (fun v _=>v = .str (Lib.trimPrefix s p)):=by
 refine Zvc fun X cargs _ _ hA=>?_;obtain ⟨x,y,rfl,hx,hy⟩:=hA.two;obtain ⟨s',rfl,rfl⟩:=hx.str_inv;obtain ⟨p',rfl,rfl⟩:=hy.str_inv;refine (show Calls Tryz.prog 304 _ _ _ from Any.strings_TrimPrefix Zl0 s' p' X.w).mono ?_;rintro e w' ⟨rfl,rfl⟩;exact ⟨_,_,rfl,RowKit.Below.refl _ _,.str _ _ rfl,by simp⟩
theorem u8_inj {c:UInt8} (h:c.toNat=48):c=48:=UInt8.toNat_inj.1 h
theorem Zhv (G:Nat→V) (hG:GOk G) (s:List UInt8) (hs:s.length<1000000):Spec Tryz.prog G 298 [.str s] Zl (fun v _=>v = .bool (Zpi s)):=by
 refine Zo 0 34 [.tmp 2] Tryz.func298 fun X=>?_;refine Z1 ?_;refine Z1 ?_;refine Zn hG ?_ (s:=(Z4n G s [45]));have htl:=Lib.trimPrefix_le s [45];have hW:Zpi s=((Lib.trimPrefix s [45]).all Zja && (s==[48] || (!(Lib.trimPrefix s [45]==[]) && !((Lib.trimPrefix s [45]).head? == some 48)))):=rfl;generalize Lib.trimPrefix s [45]=t at htl hW ⊢;refine Zs ?_;refine Z1 ?_;refine AW.block ?_
 refine Zua t.length (fun k (_:Unit)=>st [(0,.str s),(3,.str t),(7,.str t),(8,.int .i64 t.length),(9,.int .i64 k)] []) (fun k _=>(t.take k).all Zja=true) 0 () (Nat.zero_le _) rfl
  (Zb zp zp) ?_
 intro k _ hk hI L2 hL2;refine Z1 ?_;refine Zy ?_;refine Za rfl (fun h4=>?_) (fun h4=>?_)
 ·have hk1:k<t.length:=by have:=of_decide_eq_true h4;omega
  refine Z0 ?_;have g2:=List.getElem?_eq_getElem hk1
  have htk:t.take (k+1)=t.take k++[t[k]]:=by rw [List.take_succ_eq_append_getElem hk1]
  generalize t[k]=c at g2 htk;refine Z1f g2 ?_
  by_cases hc:Zja c=true
  ·have hc2:48≤c.toNat∧c.toNat≤57:=by unfold Zja at hc;simpa using hc
   have b1:decide ((c.toNat:Int)<48)=false:=zF;have b2:decide ((c.toNat:Int) > 57)=false:=zF;refine Z1f (zi g2 (zi b1 b2)) ?_;refine Zta rfl ?_
   ·refine Z1 ?_
    refine hL2 _ ⟨hk1,(),by rw [htk,List.all_append,hI];simp [hc],Zb (by simp -implicitDefEqProofs only[go_sem,seval,↓reduceIte];exact congrArg _ (by rw [w64 (by omega) (by omega)];omega)) zp⟩
  ·have hall:t.all Zja=false:=by
    rw [← List.take_append_drop (k+1) t,List.all_append,htk,List.all_append]
    have:Zja c=false:=by simpa using hc
    simp [this]
   have hc2:c.toNat<48∨57<c.toNat:=by
    rcases Nat.lt_or_ge c.toNat 48 with h | h
    ·exact .inl h
    ·rcases Nat.lt_or_ge 57 c.toNat with h1 | h1
     ·exact .inr h1
     ·exact absurd (by unfold Zja;simp [h,h1]) hc
   rcases hc2 with h | h
   ·have b1:decide ((c.toNat:Int)<48)=true:=zT
    refine Z1f (zi g2 b1) ?_;refine Za rfl (fun h7=>?_) (fun h7=>?_)
    ·refine Z ?_
     rw [hW,hall]<;>rfl
    ·cases h7
   ·have b1:decide ((c.toNat:Int)<48)=false:=zF
    have b2:decide ((c.toNat:Int) > 57)=true:=zT;refine Z1f (zi g2 (zi b1 b2)) ?_;refine Za rfl (fun h7=>?_) (fun h7=>?_)
    ·refine Z ?_
     rw [hW,hall]<;>rfl
    ·cases h7
 ·have hk1:k=t.length:=by have:=of_decide_eq_false h4;omega
  refine Z0 ?_;rw [hk1,List.take_length] at hI;rw [hI] at hW
  by_cases h0:s=[48]
  ·have b1:(s==[48])=true:=by simpa using h0
   refine Zf b1 ?_
   rw [hW,b1]<;>rfl
  ·have b1:(s==[48])=false:=by simpa using h0
   cases t with
   | nil =>
    refine Zf b1 ?_
    rw [hW,b1]<;>rfl
   | cons c r =>
    refine Zf b1 ?_;rw [hW,b1]
    by_cases hc:c=48
    ·subst hc;rfl
    ·have h1:((c.toNat:Int) != 48)=true:=bne_iff_ne.2 fun h=>hc (u8_inj (by omega))
     have h2:((c::r).head? == some 48)=false:=by simpa using hc
     rw [h1,h2]<;>rfl
end Go.Hs
end

section
namespace Go.Proofs.NumD
open Go.RowKit Go.Extern.Stop Go.Stop Go.Extern
set_option maxRecDepth 100000
theorem Zpaa (v:Value) (w:World):(Extern.ReflectliteType.typeOf #[.iface 373 v]).run Tryz.prog w = .ok (.iface 353 (.agg #[.pointer (some ⟨9,373,none⟩)])) w:=by kernel_rfl
theorem Zvw (w:World):((Extern.ReflectliteType.method fun t=>do Extern.Rtype.noPackHeld "Comparable" t;pure (.bool (← typeInfo t).comparable)) #[.agg #[.pointer (some ⟨9,373,none⟩)]]).run Tryz.prog w = .ok (.bool true) w:=by kernel_rfl
theorem Ziq (w:World):(callFunc 348 #[.agg #[.pointer (some ⟨9,373,none⟩)]]).run Tryz.prog w = .ok (.value (.bool true)) w:=by
 rw [@run_callFunc_extern Tryz.prog 348 _ (Extern.ReflectliteType.method fun t=>do Extern.Rtype.noPackHeld "Comparable" t;pure (.bool (← typeInfo t).comparable)) Tryz.func348 (by kernel_rfl) (by kernel_rfl) (by kernel_rfl) (by kernel_rfl),Zvw]
 try rfl
theorem Z7k (v:Value) (w:World):(Go.method 505 353 v "Comparable").run Tryz.prog w = .ok (348,v) w:=by kernel_rfl
theorem isComp:(Tryz.prog.info? 373).map (·.comparable)=some true:=by kernel_rfl
theorem isSize:(Tryz.prog.info? 375).map (·.size)=some 1:=by kernel_rfl
theorem noIsW (v:Value) (xT:TypeId) (w:World):(Instr.typeAssert (.iface 349 v) xT 355 true).run Tryz.prog w = .ok (.tuple #[.nilIface,.bool false]) w:=run_typeAssert_lacksB Tryz.underlying355 (by kernel_rfl) (by kernel_rfl) v xT w
theorem Z63 (v:Value) (xT:TypeId) (w:World):(Instr.typeAssert (.iface 349 v) xT 358 true).run Tryz.prog w = .ok (.tuple #[.iface 349 v,.bool true]) w:=run_typeAssert_hasB Tryz.underlying358 (by kernel_rfl) v xT w
theorem Zqw (v:Value) (w:World):(Go.method 505 349 v "Unwrap").run Tryz.prog w = .ok (344,v) w:=by kernel_rfl
theorem is_nil (b:Addr) (w:World) :
  Calls Tryz.prog 300 #[.nilIface,.iface 373 (.pointer (some b))] w fun e w'=>e = .returned (.bool false)∧w'=w:=by
 have hn:=run_eql_iface_nil_left (P:=Tryz.prog) w 373 (.pointer (some b)) Tryz.underlying177
 go_enter Tryz.func300,Tryz.ntmps300
 go_wp2
 go_ret
 exact ⟨rfl,rfl⟩
theorem is_num (pb po:Nat) (b:Addr) (w:World) (h1:w.cell? ⟨pb,po+2,none⟩=some (.iface 373 (.pointer (some b)))) :
  Calls Tryz.prog 300 #[.iface 349 (.pointer (some ⟨pb,po,none⟩)),.iface 373 (.pointer (some b))] w fun e w'=>e = .returned (.bool true)∧w'=w:=by
 obtain ⟨i,hi,hcmp⟩:=Option.map_eq_some_iff.1 isComp;obtain ⟨j,hj,hjs⟩:=Option.map_eq_some_iff.1 isSize;have h8 := @run_callFunc_extern Tryz.prog 307 _ Extern.ReflectliteType.typeOf Tryz.func307 (by kernel_rfl) (by kernel_rfl) (by kernel_rfl) (by kernel_rfl);have hC:=Ziq;have tT:=Zpaa;have mR:=Z7k;have nW:=noIsW;have uW:=Z63;have mU:=Zqw;have heq:=run_eql_iface_ptr_same (P:=Tryz.prog) w b Tryz.underlying177 Tryz.underlying373 hi hcmp hj;have hty:=run_eql_iface_types (P:=Tryz.prog) 349 373 (.pointer (some ⟨pb,po,none⟩)) (.pointer (some b)) Tryz.underlying177 (by decide) w
 go_enter Tryz.func300,Tryz.ntmps300
 go_wp2
 refine wp_loop_rounds 2 ?_;rw [rounds_succ]
 go_wp2
 rw [rounds_succ]
 go_wp2
 go_ret
 exact ⟨rfl,rfl⟩
end Go.Proofs.NumD
end

section
namespace Go.Hs
open Go.Proofs Go.RowKit
set_option maxRecDepth 100000
theorem Z1r (s:ByteArray) (hs:s.data.toList.length<1000000) (w:World):Calls Tryz.prog 298 #[.string s] w fun e w'=>e = .returned (.bool (Zpi s.data.toList))∧Below w.heap.size w w':=by
 refine ((Zhv gTop gTop_ok s.data.toList hs).toCalls (Zw0 s)).mono ?_;rintro e w' ⟨c,v,H',Y,rfl,hr,rfl,hb⟩;exact ⟨by rw [hr.bool_inv],hb⟩
theorem Zhz (s:ByteArray) (hs:s.data.toList.length<1000000) (v:Int) (h:Lib.parseIntB 64 s.data.toList = .ok v) (w:World):Calls Tryz.prog 299 #[.string s,.int .i64 10,.int .i64 64] w fun e w'=>e = .returned (.tuple #[.int .i64 v,.nilIface])∧Below w.heap.size w w':=by
 refine (show Calls Tryz.prog 299 _ _ _ from Any.strconv_ParseInt_10_at64_ok Zxp s (by rw [Lib.size_eq];omega) v h w).mono ?_;rintro e w' ⟨rfl,rfl | ⟨t,rfl⟩⟩
 ·exact ⟨rfl,Below.refl _ _⟩
 ·exact ⟨rfl,Lib.bytesWorld_below _ _ _⟩
theorem Zdq (s:ByteArray) (hs:s.data.toList.length<1000000) (h:Lib.parseIntB 64 s.data.toList = .range) (te:TypeId) (pe:Value) (w:World) (hv:w.cell? ⟨3,0,none⟩=some (.iface te pe)):Calls Tryz.prog 299 #[.string s,.int .i64 10,.int .i64 64] w fun e w'=>∃ N n,e = .returned (.tuple #[.int .i64 n,.iface 349 (.pointer (some ⟨N,0,none⟩))])∧w'.cell? ⟨N,2,none⟩=some (.iface te pe)∧Below w.heap.size w w':=by
 refine (show Calls Tryz.prog 299 _ _ _ from Any.strconv_ParseInt_10_at64_range Zxp s (by rw [Lib.size_eq];omega) h _ w hv (.inr ⟨_,_,rfl⟩)).mono ?_;rintro e w' ⟨N,rfl,_,hN,hb⟩;exact ⟨N,_,rfl,by simp [World.cell?,hN],hb⟩
theorem Zgz (s:ByteArray) (hs:s.data.toList.length<1000000) (b:Addr) (w:World) (hv:w.cell? ⟨3,0,none⟩=some (.iface 373 (.pointer (some b)))) :
  Calls Tryz.prog 291 #[.string s] w fun e w'=>e = .returned (.tuple #[.int .i64 (Zrb s.data.toList).1,.int .i64 (Zrb s.data.toList).2])∧Below w.heap.size w w':=by
 have hw:=Z1r s hs;have lt:=Lib.lt_of_cell hv
 rcases Ze6 s.data.toList with ⟨h1,h2⟩ | ⟨h1,⟨v,h2,h3⟩ | ⟨h2,h3⟩⟩
 ·rw [h1] at hw
  rw [h2]
  try clear h1 h2
  go_enter Tryz.func291,Tryz.ntmps291
  go_wp2_with (go_at_call 298;refine (hw _).mono ?_;rintro e W1 ⟨rfl,hb1⟩)
  go_wp2
  go_ret2
  exact ⟨rfl,hb1⟩
 ·rw [h1] at hw
  rw [h3];have hp:=Zhz s hs v h2;have hn:=NumD.is_nil b
  try clear h1 h2 h3
  go_enter Tryz.func291,Tryz.ntmps291
  go_wp2_with (go_at_call 298;refine (hw _).mono ?_;rintro e W1 ⟨rfl,hb1⟩)
  have hv1:W1.cell? ⟨3,0,none⟩=some (.iface 373 (.pointer (some b))):=(hb1.cell lt).trans hv
  go_wp2_with (go_at_call 299;refine (hp _).mono ?_)
  rintro e W2 ⟨rfl,hb2⟩;have hv2:W2.cell? ⟨3,0,none⟩=some (.iface 373 (.pointer (some b))):=(hb2.cell (Nat.lt_of_lt_of_le lt hb1.size)).trans hv1
  go_wp2_with (go_at_call 300;refine (hn _).mono ?_;rintro e W3 ⟨rfl,rfl⟩)
  go_wp2
  go_ret2
  exact ⟨rfl,hb1.trans (hb2.mono hb1.size)⟩
 ·rw [h1] at hw
  rw [h3];have hp:=Zdq s hs h2 373 (.pointer (some b))
  try clear h1 h2 h3
  go_enter Tryz.func291,Tryz.ntmps291
  go_wp2_with (go_at_call 298;refine (hw _).mono ?_;rintro e W1 ⟨rfl,hb1⟩)
  have hv1:W1.cell? ⟨3,0,none⟩=some (.iface 373 (.pointer (some b))):=(hb1.cell lt).trans hv
  go_wp2_with (go_at_call 299;refine (hp _ ?_).mono ?_)
  ·exact hv1
  rintro e W2 ⟨N,n,rfl,hN,hb2⟩;have hv2:W2.cell? ⟨3,0,none⟩=some (.iface 373 (.pointer (some b))):=(hb2.cell (Nat.lt_of_lt_of_le lt hb1.size)).trans hv1;have hq:=NumD.is_num N 0 b W2 hN
  go_wp2_with (go_at_call 300;refine hq.mono ?_;rintro e W3 ⟨rfl,rfl⟩)
  go_wp2
  go_ret2
  exact ⟨rfl,hb1.trans (hb2.mono hb1.size)⟩
end Go.Hs
end

section
namespace Go.Hs
open Go.Proofs
set_option maxRecDepth 10000
structure GNum (G:Nat→V):Prop where
 ok:GOk G
 er:∃ c c' v,G 3 = .view c (.iface 373 (.view c' v))
 tab:∃ c,G 2 = .view c (.agg (Lib.pow10Tab.map (V.int .u64)))
theorem Znz (G:Nat→V) (hG:GNum G) (s:List UInt8) (hs:s.length<1000000):Spec Tryz.prog G 291 [.str s] Zl (fun v _=>v=encR (Zrb s)):=by
 refine Zvc fun X cargs _ hX hA=>?_;obtain ⟨x,rfl,hx⟩:=hA.one;obtain ⟨s',rfl,rfl⟩:=hx.str_inv;obtain ⟨c,c',v,he⟩:=hG.er;have h0:=(hX 3).rel;rw [he] at h0;obtain ⟨f,hf⟩:=h0.view_inv;obtain ⟨h1,h2⟩:=hf 0 (by simp [V.cells]);have h2:Rel X (f 0) (.iface 373 (.view c' v)):=h2;generalize f 0=y at h1 h2
 cases h2 with
 | iface t x _ h3 =>
  cases h3 with
  | view _ _ b off f' _ _ =>
   refine (Zgz s' hs ⟨b,off,none⟩ X.w h1).mono ?_;rintro e w' ⟨rfl,hb⟩;refine ⟨_,_,rfl,hb,?_,rfl⟩;refine .tuple _ _ rfl fun i h1 h2=>?_
   match i,h1 with
   | 0,_=>exact .int _ _
   | 1,_=>exact .int _ _
theorem Zd9 {X:Cx} {c:Col} {zs:List Int} (hX:RelG X 2 (.view c (.agg (zs.map (V.int .u64))))):Lib.TabIs Tryz.prog X.w "internal/strconv.uint64pow10" .u64 zs:=by
 obtain ⟨_,l,t,fr,h1,h2⟩:=hX.sz;obtain ⟨f,hf⟩:=hX.rel.view_inv;unfold Lib.TabIs World.var?
 rw [show Tryz.prog.globalNamed "internal/strconv.uint64pow10" = some 2 by kernel_rfl]
 rw [List.length_map] at h2
 show (match X.w.heap[2]? with | some (.cells cs _ _)=>some cs | _=>none)=_
 rw [h1];refine congrArg some ?_;apply Array.ext
 ·simp [h2]
 ·intro i k1 k2
  obtain ⟨h3,h4⟩:=hf i (by simp [V.cells];omega);rw [Nat.zero_add] at h3;have h5:X.w.cell? ⟨2,i,none⟩=l[i]? := Zgh h1;rw [h5,Array.getElem?_eq_getElem k1] at h3;have h6:l[i]=f i:=Option.some.inj h3
  have h7:Rel X (f i) (.int .u64 (zs[i]'(by omega))):=by
   have:(V.agg (zs.map (V.int .u64))).cells[i]'(by simp [V.cells];omega) = .int .u64 (zs[i]'(by omega)):=by simp [V.cells]
   rw [← this];exact h4
  rw [h6,h7.int_inv];simp
theorem Zuz (G:Nat→V) (hG:GNum G) (n:Int) (hn:InK .i64 n):Spec Tryz.prog G 231 [.int .i64 n,.int .i64 10] Zl (fun v _=>v = .str (Zoy n)):=by
 have hn':=(Zyj n).1 hn;refine Zvc fun X cargs _ hX hA=>?_;obtain ⟨x,y,rfl,hx,hy⟩:=hA.two;rw [hx.int_inv,hy.int_inv];obtain ⟨c,he⟩:=hG.tab;have h0:=hX 2;rw [he] at h0;refine (show Calls Tryz.prog 231 _ _ _ from Any.strconv_FormatInt_10 Zp0 n hn'.1 hn'.2 X.w (Zd9 h0)).mono ?_;rintro e w' ⟨rfl,k,os,rfl⟩;exact ⟨_,_,rfl,Lib.below_grow _ _ (Nat.le_refl _) _ _,.str _ _ rfl,by simp [Zoy]⟩
theorem Zr6 (G:Nat→V) (hG:GNum G) (n:Int) (hn:InK .i64 n):Spec Tryz.prog G 160 [.int .i64 n] Zl (fun v _=>v = .str (Zoy n)):=by
 have hG0:=hG
 replace hG:=hG.ok
 refine Zo 0 5 [.tmp 2] Tryz.func160 fun X=>?_;refine Z1 ?_;refine Z1 ?_;refine Zc hG ?_ (s:=(Zuz G hG0 n hn));exact Zr
end Go.Hs
end

section
namespace Go.Proofs
open Go.Shelf
def Zyp:Go.Shelf.Ren:=⟨fun | 99=>145 | 206=>224 | n=>n,fun | 9=>9 | 4=>4 | 3=>3 | n=>n,fun | n=>n⟩
theorem Zo0:Go.Proofs.Lays.n99 Tryz.prog Zyp:={
 mixed:=by kernel_rfl
 f99:=Tryz.func145.trans (congrArg some (by kernel_rfl))
 f206:=Tryz.func224.trans (congrArg some (by kernel_rfl))
 t3:=Tryz.underlying3
 a3:=Tryz.isAgg3
 z3:=Tryz.sizeOf3
 v3:=Tryz.zeroValue3
 t4:=Tryz.underlying4
 a4:=Tryz.isAgg4
 z4:=Tryz.sizeOf4
 v4:=Tryz.zeroValue4
 t9:=Tryz.underlying9
 a9:=Tryz.isAgg9
 z9:=Tryz.sizeOf9
 v9:=Tryz.zeroValue9 }
def Z2p:Go.Shelf.Ren:=⟨fun | 144=>150 | 143=>225 | 219=>255 | 217=>261 | 225=>262 | 224=>263 | 267=>264 | 266=>276 | 314=>277 | n=>n,fun | 9=>9 | 4=>4 | 3=>3 | 5=>5 | 46=>296 | 146=>311 | 51=>310 | n=>n,fun | 1=>1 | n=>n⟩
theorem Zq0:Go.Proofs.Lays.n144 Tryz.prog Z2p:={
 mixed:=by kernel_rfl
 f143:=Tryz.func225.trans (congrArg some (by kernel_rfl))
 f144:=Tryz.func150.trans (congrArg some (by kernel_rfl))
 f217:=Tryz.func261.trans (congrArg some (by kernel_rfl))
 f219:=Tryz.func255.trans (congrArg some (by kernel_rfl))
 f224:=Tryz.func263.trans (congrArg some (by kernel_rfl))
 f225:=Tryz.func262.trans (congrArg some (by kernel_rfl))
 f266:=Tryz.func276.trans (congrArg some (by kernel_rfl))
 f267:=Tryz.func264.trans (congrArg some (by kernel_rfl))
 f314:=Tryz.func277.trans (congrArg some (by kernel_rfl))
 t3:=Tryz.underlying3
 a3:=Tryz.isAgg3
 z3:=Tryz.sizeOf3
 v3:=Tryz.zeroValue3
 t4:=Tryz.underlying4
 a4:=Tryz.isAgg4
 z4:=Tryz.sizeOf4
 v4:=Tryz.zeroValue4
 t5:=Tryz.underlying5
 a5:=Tryz.isAgg5
 z5:=Tryz.sizeOf5
 v5:=Tryz.zeroValue5
 t9:=Tryz.underlying9
 a9:=Tryz.isAgg9
 z9:=Tryz.sizeOf9
 v9:=Tryz.zeroValue9
 t46:=Tryz.underlying296
 a46:=Tryz.isAgg296
 z46:=Tryz.sizeOf296
 v46:=Tryz.zeroValue296
 t51:=Tryz.underlying310
 a51:=Tryz.isAgg310
 z51:=Tryz.sizeOf310
 v51:=Tryz.zeroValue310
 t146:=Tryz.underlying311
 a146:=Tryz.isAgg311
 z146:=Tryz.sizeOf311
 v146:=Tryz.zeroValue311
 g1:=by kernel_rfl }
def Zvp:Go.Shelf.Ren:=⟨fun | 161=>290 | 231=>294 | 227=>295 | 233=>296 | 235=>297 | 228=>301 | 197=>302 | 151=>303 | 260=>309 | 152=>310 | 137=>317 | 119=>318 | 224=>263 | 225=>262 | 217=>261 | 266=>276 | n=>n,fun | 9=>9 | 4=>4 | 3=>3 | 5=>5 | 117=>328 | 116=>327 | 0=>0 | 124=>331 | 105=>337 | 21=>21 | 119=>363 | 46=>296 | 139=>366 | 138=>365 | n=>n,fun | 3=>6 | 4=>7 | n=>n⟩
theorem Zm0:Go.Proofs.Lays.n161 Tryz.prog Zvp:={
 mixed:=by kernel_rfl
 f119:=Tryz.func318.trans (congrArg some (by kernel_rfl))
 f137:=Tryz.func317.trans (congrArg some (by kernel_rfl))
 f151:=Tryz.func303.trans (congrArg some (by kernel_rfl))
 f152:=Tryz.func310.trans (congrArg some (by kernel_rfl))
 f161:=Tryz.func290.trans (congrArg some (by kernel_rfl))
 f197:=Tryz.func302.trans (congrArg some (by kernel_rfl))
 f217:=Tryz.func261.trans (congrArg some (by kernel_rfl))
 f224:=Tryz.func263.trans (congrArg some (by kernel_rfl))
 f225:=Tryz.func262.trans (congrArg some (by kernel_rfl))
 f227:=Tryz.func295.trans (congrArg some (by kernel_rfl))
 f228:=Tryz.func301.trans (congrArg some (by kernel_rfl))
 f231:=Tryz.func294.trans (congrArg some (by kernel_rfl))
 f233:=Tryz.func296.trans (congrArg some (by kernel_rfl))
 f235:=Tryz.func297.trans (congrArg some (by kernel_rfl))
 f260:=Tryz.func309.trans (congrArg some (by kernel_rfl))
 f266:=Tryz.func276.trans (congrArg some (by kernel_rfl))
 t0:=Tryz.underlying0
 a0:=Tryz.isAgg0
 z0:=Tryz.sizeOf0
 v0:=Tryz.zeroValue0
 t3:=Tryz.underlying3
 a3:=Tryz.isAgg3
 z3:=Tryz.sizeOf3
 v3:=Tryz.zeroValue3
 t4:=Tryz.underlying4
 a4:=Tryz.isAgg4
 z4:=Tryz.sizeOf4
 v4:=Tryz.zeroValue4
 t5:=Tryz.underlying5
 a5:=Tryz.isAgg5
 z5:=Tryz.sizeOf5
 v5:=Tryz.zeroValue5
 t9:=Tryz.underlying9
 a9:=Tryz.isAgg9
 z9:=Tryz.sizeOf9
 v9:=Tryz.zeroValue9
 t21:=Tryz.underlying21
 a21:=Tryz.isAgg21
 z21:=Tryz.sizeOf21
 v21:=Tryz.zeroValue21
 t46:=Tryz.underlying296
 a46:=Tryz.isAgg296
 z46:=Tryz.sizeOf296
 v46:=Tryz.zeroValue296
 t105:=Tryz.underlying337
 a105:=Tryz.isAgg337
 z105:=Tryz.sizeOf337
 v105:=Tryz.zeroValue337
 t116:=Tryz.underlying327
 a116:=Tryz.isAgg327
 z116:=Tryz.sizeOf327
 t117:=Tryz.underlying328
 a117:=Tryz.isAgg328
 z117:=Tryz.sizeOf328
 v117:=Tryz.zeroValue328
 t119:=Tryz.underlying363
 a119:=Tryz.isAgg363
 z119:=Tryz.sizeOf363
 t124:=Tryz.underlying331
 a124:=Tryz.isAgg331
 z124:=Tryz.sizeOf331
 v124:=Tryz.zeroValue331
 t138:=Tryz.underlying365
 a138:=Tryz.isAgg365
 z138:=Tryz.sizeOf365
 v138:=Tryz.zeroValue365
 t139:=Tryz.underlying366
 a139:=Tryz.isAgg366
 z139:=Tryz.sizeOf366
 v139:=Tryz.zeroValue366
 g3:=by kernel_rfl
 g4:=by kernel_rfl }
def Zji:Go.Shelf.Ren:=⟨fun | 156=>46 | 165=>95 | 166=>96 | 169=>97 | 240=>162 | 241=>163 | 276=>233 | 277=>234 | n=>n,fun | 31=>36 | 9=>9 | 3=>3 | 4=>4 | 0=>0 | 20=>20 | 72=>174 | 76=>178 | 70=>172 | 37=>166 | 75=>177 | 127=>229 | 164=>275 | 5=>5 | 80=>180 | n=>n,fun | n=>n⟩
theorem Zn0:Go.Proofs.Lays.n156 Tryz.prog Zji:={
 mixed:=by kernel_rfl
 f156:=Tryz.func46.trans (congrArg some (by kernel_rfl))
 f165:=Tryz.func95.trans (congrArg some (by kernel_rfl))
 f166:=Tryz.func96.trans (congrArg some (by kernel_rfl))
 f169:=Tryz.func97.trans (congrArg some (by kernel_rfl))
 f240:=Tryz.func162.trans (congrArg some (by kernel_rfl))
 f241:=Tryz.func163.trans (congrArg some (by kernel_rfl))
 f276:=Tryz.func233.trans (congrArg some (by kernel_rfl))
 f277:=Tryz.func234.trans (congrArg some (by kernel_rfl))
 t0:=Tryz.underlying0
 a0:=Tryz.isAgg0
 z0:=Tryz.sizeOf0
 v0:=Tryz.zeroValue0
 t3:=Tryz.underlying3
 a3:=Tryz.isAgg3
 z3:=Tryz.sizeOf3
 v3:=Tryz.zeroValue3
 t4:=Tryz.underlying4
 a4:=Tryz.isAgg4
 z4:=Tryz.sizeOf4
 v4:=Tryz.zeroValue4
 t9:=Tryz.underlying9
 a9:=Tryz.isAgg9
 z9:=Tryz.sizeOf9
 v9:=Tryz.zeroValue9
 t20:=Tryz.underlying20
 a20:=Tryz.isAgg20
 z20:=Tryz.sizeOf20
 v20:=Tryz.zeroValue20
 t31:=Tryz.underlying36
 a31:=Tryz.isAgg36
 z31:=Tryz.sizeOf36
 v31:=Tryz.zeroValue36
 t37:=Tryz.underlying166
 a37:=Tryz.isAgg166
 z37:=Tryz.sizeOf166
 v37:=Tryz.zeroValue166
 t70:=Tryz.underlying172
 a70:=Tryz.isAgg172
 z70:=Tryz.sizeOf172
 v70:=Tryz.zeroValue172
 t72:=Tryz.underlying174
 a72:=Tryz.isAgg174
 z72:=Tryz.sizeOf174
 v72:=Tryz.zeroValue174
 t75:=Tryz.underlying177
 a75:=Tryz.isAgg177
 z75:=Tryz.sizeOf177
 v75:=Tryz.zeroValue177
 t76:=Tryz.underlying178
 a76:=Tryz.isAgg178
 z76:=Tryz.sizeOf178
 v76:=Tryz.zeroValue178
 t127:=Tryz.underlying229
 a127:=Tryz.isAgg229
 z127:=Tryz.sizeOf229
 v127:=Tryz.zeroValue229
 t164:=Tryz.underlying275
 a164:=Tryz.isAgg275
 z164:=Tryz.sizeOf275
 v164:=Tryz.zeroValue275 }
theorem Zey:Builder.Extra Tryz.prog Zji:={
 sizeBuilder:=by kernel_rfl
 liesBuilder:=by kernel_rfl
 t5:=Tryz.underlying5
 a5:=Tryz.isAgg5
 z5:=Tryz.sizeOf5
 v5:=Tryz.zeroValue5
 infoByte:=by kernel_rfl
 cellsByte:=by kernel_rfl
 sizeByte:=by kernel_rfl
 neB5:=by decide }
end Go.Proofs
end

section
namespace Go.Hs
open Go.Proofs
set_option maxRecDepth 10000
structure GExp (G:Nat→V):Prop extends GNum G where
 sg:∃ c,G 0 = .view c (.agg (signsL.map V.str))
 ml:∃ c m,G 1 = .view c (.int .i64 m)
theorem Zie (G:Nat→V) (s p:List UInt8):Spec Tryz.prog G 145 [.str s,.str p] Zl (fun v _=>v = .bool (Zfa p s)):=by
 refine Zvc fun X cargs _ _ hA=>?_;obtain ⟨x,y,rfl,hx,hy⟩:=hA.two;obtain ⟨s',rfl,rfl⟩:=hx.str_inv;obtain ⟨p',rfl,rfl⟩:=hy.str_inv;refine (show Calls Tryz.prog 145 _ _ _ from Any.strings_HasPrefix Zo0 s' p' X.w).mono ?_;rintro e w' ⟨rfl,rfl⟩;exact ⟨_,_,rfl,RowKit.Below.refl _ _,.bool _,rfl⟩
theorem Z8s (G:Nat→V) (hG:GExp G) (s p:List UInt8) (hs:s.length<1000000):Spec Tryz.prog G 150 [.str s,.str p] Zl (fun v _=>v = .bool (Lib.contains s p)):=by
 refine Zvc fun X cargs _ hX hA=>?_;obtain ⟨x,y,rfl,hx,hy⟩:=hA.two;obtain ⟨s',rfl,rfl⟩:=hx.str_inv;obtain ⟨p',rfl,rfl⟩:=hy.str_inv;obtain ⟨c,m,he⟩:=hG.ml;have h0:=(hX 1).rel;rw [he] at h0;obtain ⟨f,hf⟩:=h0.view_inv;obtain ⟨h1,h2⟩:=hf 0 (by simp [V.cells]);have h2:Rel X (f 0) (.int .i64 m):=h2;rw [h2.int_inv] at h1;refine (show Calls Tryz.prog 150 _ _ _ from Any.strings_Contains Zq0 s' p' m X.w (by rw [Lib.size_eq];omega) h1).mono ?_;rintro e w' ⟨rfl,rfl⟩;exact ⟨_,_,rfl,RowKit.Below.refl _ _,.bool _,rfl⟩
def Z77 (s:List UInt8):Nat:=Zxc Znh s+if Zfa [45,45] (s.drop (Zxc Znh s)) then Zxc Z4l (s.drop (Zxc Znh s)) else 0
theorem Z57:∀ s:List UInt8,blk s=Zxc Znh s+blk (s.drop (Zxc Znh s))
 | []=>rfl
 | c::r=>by
  rw [Zjg]
  cases h:Znh c with
  | true=>rw [Z2m h,if_pos rfl,List.drop_succ_cons,Z57 r];omega
  | false=>rw [if_neg (by simp)];simp
theorem Zr2 (s:List UInt8):blk s=Z77 s+blk (s.drop (Z77 s)):=by
 unfold Z77;rw [Z57 s]
 split
 ·rename_i h
  rw [Zhm h,List.drop_drop];omega
 ·rfl
theorem Z67 {s:List UInt8} (h:Z77 s=0):blk s=0:=by
 unfold Z77 at h
 have h1:Zxc Znh s=0:=by omega
 rw [h1,List.drop_zero] at h
 match s with
 | []=>rfl
 | c::r =>
  rw [Zjg] at h1
  have hc:Znh c=false:=by
   cases hc:Znh c with
   | false=>rfl
   | true=>rw [hc] at h1;simp at h1
  refine Zmp hc ?_
  cases hp:Zfa [45,45] (c::r) with
  | false=>rfl
  | true=>have:=Z3f hp;rw [if_pos hp] at h;omega
theorem blk1_le (s:List UInt8):Z77 s≤s.length:=by
 have h1:=Zr2 s;have h2:=Ztr s;omega
theorem Zzm (G:Nat→V) (hG:GOk G) (s:List UInt8) (hs:s.length<1000000):Spec Tryz.prog G 86 [.str s] Zl (fun v _=>v = .int .i64 (blk s)):=by
 refine Zo 0 29 [.tmp 2] Tryz.func86 fun X=>?_;refine Z1 ?_;refine Z1 ?_;refine AW.block ?_
 refine Zwc (fun (k:Nat)=>st [(0,.str s),(3,.int .i64 k)] []) (fun k=>k≤s.length∧blk s=k+blk (s.drop k)) (fun k=>s.length-k) 0 ⟨Nat.zero_le _,by simp⟩
  (Zb zp zp) ?_
 rintro k ⟨hk,hR⟩ L2 hL2;refine AW.block ?_;have hn1:=Z8d Znh (s.drop k);rw [List.length_drop] at hn1;have hk2:=Zr2 (s.drop k);have hk3:=blk1_le (s.drop k);have hk4:Z77 (s.drop k)=0→blk (s.drop k)=0:=Z67;rw [List.length_drop] at hk3;rw [List.drop_drop] at hk2;refine Z1f (zi hk @Nat.le_refl) ?_;refine Zc hG ?_ (s:=(Z4k G hG _ (by simp;omega) (fBl hG)));refine Z9 (fun (_:Unit)=>st [(0,.str s),(3,.int .i64 k),(4,.int .i64 (Z77 (s.drop k)))] []) (fun _=>True) (fun K3 hK3=>?_) ?_
 ·have hkn:k+Zxc Znh (s.drop k)≤s.length:=by omega
  have hw:IntKind.i64.wrap ((k:Int)+(Zxc Znh (s.drop k):Nat))=((k+Zxc Znh (s.drop k):Nat):Int):=by rw [w64 (by omega) (by omega)];omega
  have hb:Z77 (s.drop k)=Zxc Znh (s.drop k)+if Zfa [45,45] (s.drop (k+Zxc Znh (s.drop k))) then Zxc Z4l (s.drop (k+Zxc Znh (s.drop k))) else 0:=by
   unfold Z77;rw [List.drop_drop]
  have hn2:=Z8d Z4l (s.drop (k+Zxc Znh (s.drop k)));rw [List.length_drop] at hn2;generalize Zxc Znh (s.drop k)=n at hn1 hkn hw hb hn2 ⊢;rw [hb] at hk3 hK3
  try clear hb hk2 hk4
  refine Z1f (zi hkn (zi @Nat.le_refl hw)) ?_;refine Zc hG ?_ (s:=(Zie G _ _));refine Za rfl (fun h4=>?_) (fun h4=>?_)
  ·refine Z1f (zi hkn (zi @Nat.le_refl hw)) ?_
   refine Zn hG ?_ (s:=(Z4k G hG _ (by simp;omega) (fNoNl hG)));rw [if_pos h4] at hk3 hK3;refine Zs ?_;exact hK3 _ () trivial (Zb (by simp -implicitDefEqProofs only[go_sem,seval,↓reduceIte];exact congrArg _ (by rw [w64 (by omega) (by omega)];omega)) zp)
  ·refine Z0 ?_
   rw [if_neg (by simp [h4])] at hK3;exact hK3 _ () trivial (Zb zp zp)
 intro _ _;generalize Z77 (s.drop k)=n at hk2 hk3 hk4 ⊢;refine Z1 ?_;refine Za rfl (fun h6=>?_) (fun h6=>?_)
 ·have hn:n=0:=by have h6:((n:Int)==0)=true:=h6;simpa using h6
  refine Z ?_
  rw [hR,hk4 hn]<;>rfl
 ·have hn:n≠0:=by have h6:((n:Int)==0)=false:=h6;simpa using h6
  refine Z1 ?_;refine hL2 _ ⟨k+n,by omega,⟨by omega,by rw [hR,hk2];omega⟩,Zb (by simp -implicitDefEqProofs only[go_sem,seval,↓reduceIte];exact congrArg _ (by rw [w64 (by omega) (by omega)];omega)) zp⟩
end Go.Hs
end

section
namespace Go.Hs
open Go.Proofs
set_option maxRecDepth 10000
def Z34 {α : Type} (p : α → Bool) (l:List α):Int:=match l.findIdx? p with | some i=>(i:Int) | none => -1
theorem Z6o {α : Type} {p : α → Bool} {l:List α} {k:Nat} {x : α} (hg:l[k]? = some x) (hn:∀ y∈l.take k,p y=false) (hp:p x=true):Z34 p l=k:=by
 have hk:k<l.length:=by rw [List.getElem?_eq_some_iff] at hg;exact hg.1
 have:l.findIdx? p=some k:=by
  rw [List.findIdx?_eq_some_iff_getElem]
  have e:l[k]=x:=by rw [List.getElem?_eq_getElem hk] at hg;exact Option.some.inj hg
  refine ⟨hk,by rw [e];exact hp,fun j hj=>?_⟩
  have hm:l[j]∈l.take k:=by rw [List.mem_take_iff_getElem];exact ⟨j,by omega,rfl⟩
  rw [hn _ hm];simp
 unfold Z34;rw [this]
theorem Z7o {α : Type} {p : α → Bool} {l:List α} (hn:∀ y∈l,p y=false):Z34 p l = -1:=by
 have:l.findIdx? p=none:=by rw [List.findIdx?_eq_none_iff];exact hn
 unfold Z34;rw [this]
theorem Zcs {α : Type} {p : α → Bool} {l:List α} {k:Nat} {x : α} (hg:l[k]? = some x) (hn:∀ y∈l.take k,p y=false) (hp:p x=false):∀ y∈l.take (k+1),p y=false:=by
 intro y hy;rw [List.take_add_one,hg] at hy
 rcases List.mem_append.1 hy with h | h
 ·exact hn y h
 ·have:y=x:=by simpa using h
  rw [this];exact hp
structure FnS (G:Nat→V) (f:FuncId) (cap:List V) (p:List UInt8→Bool):Prop where
 en:Zka Tryz.prog f=true
 rc:cap.map (V.recol Col.ent)=cap
 sp:∀ c:List UInt8,Spec Tryz.prog G f (.str c::cap) Zl (fun v _=>v = .bool (p c))
theorem Zco (G:Nat→V) (hG:GOk G) (c:Col) (s:Sl (List UInt8)) (hs:s.l.length<1000000) {f:FuncId} {cap:List V} {p:List UInt8→Bool} (hf:FnS G f cap p) :
  Spec Tryz.prog G 151 [Zd c 1 V.str s,.func (.func f) [] cap] Zl (fun v _=>v = .int .i64 (Z34 p s.l)):=by
 refine Zo 0 19 [.tmp 4] Tryz.func151 fun X=>?_;refine Z1 ?_;refine Z1 ?_;refine AW.block ?_
 refine Zua s.l.length (fun k (_:Unit)=>st [(0,Zd c 1 V.str s),(1,.func (.func f) [] cap),(7,.int .i64 s.l.length),(8,.int .i64 k)] []) (fun k _=>∀ y∈s.l.take k,p y=false) 0 () (Nat.zero_le _) (by simp)
  (Zb zp zp) ?_
 intro k _ hk hR L2 hL2;refine Z1 ?_;refine Zy ?_;refine Za rfl (fun h4=>?_) (fun h4=>?_)
 ·have hk1:k<s.l.length:=by simpa using h4
  have hg:=List.getElem?_eq_getElem hk1;generalize s.l[k]=x at hg;refine Z1 ?_;refine Z1f hg ?_;refine CallA.pure hG hf.en ?_;simp only [List.map_cons,hf.rc,Zlg];refine (hf.sp x).mono ?_;rintro _ _ rfl;refine Zs ?_;refine Za rfl (fun h6=>?_) (fun h6=>?_)
  ·refine Z ?_
   rw [Z6o hg hR h6]
  ·refine Z1 ?_
   refine hL2 _ ⟨hk1,(),Zcs hg hR h6,Zb zw zp⟩
 ·have hk1:k=s.l.length:=by simp at h4;omega
  refine Z ?_;rw [hk1,List.take_length] at hR;rw [Z7o hR]
theorem Z06 (G:Nat→V) (hG:GOk G) (s t:List UInt8):Spec Tryz.prog G 152 [.str t,.view .old (.str s)] Zl (fun v _=>v = .bool (Zfa t s)):=by
 refine Zo 0 7 [.tmp 3] Tryz.func152 fun X=>?_;refine Z1 ?_;refine Z1 ?_;refine Zc hG ?_ (s:=(Zie G _ _));exact Zr
theorem fPre {G:Nat→V} (hG:GOk G) (s:List UInt8):FnS G 152 [.view .old (.str s)] (Zfa · s):=⟨by kernel_rfl,rfl,Z06 G hG s⟩
end Go.Hs
end
