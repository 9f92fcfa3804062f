/- Part 40 of the proof of a statement of seat YtohdjmgdaaipaaaGreatDoor: HsHActR HsHPrtShelf HsHPrtCat HsLexLaw3 HsLexLaw4 HsNumBackLaw HsExprPrn HsHPrtW HsExprBkLaw HsHPrtW2 HsHNumRef5 HsHNumRefPut HsHPrtR HsHPrtP. -/
import Derived.Test.YtohdjmgdaaipaaaGreatDoorPart39
import Derived.Test.YtohdjmgdaaipaaaGreatDoorChecked
import Derived.Shelf.Spec.SlicesGrow
import Derived.Ground.Names7Prog
import Derived.Test.YtohdjmgdaaipaaaGreatDoorPart20
import Derived.Test.YtohdjmgdaaipaaaGreatDoorPart34
import Derived.Test.YtohdjmgdaaipaaaGreatDoorPart33
import Derived.Test.YtohdjmgdaaipaaaGreatDoorPart25
import Derived.Test.YtohdjmgdaaipaaaGreatDoorPart31
import Derived.Test.YtohdjmgdaaipaaaGreatDoorPart32
import Derived.Test.YtohdjmgdaaipaaaGreatDoorPart35
set_option linter.unusedSimpArgs false
set_option linter.unusedVariables false
section
namespace Go.Hs
open Go.Proofs
set_option maxRecDepth 10000
theorem Z8i (G:Nat→V) (hG:GOk G) (c:Col) (s:Sl Tk) (i:Nat) :
  Spec Tryz.prog G 83 [Zd c 3 Z8a s,.int .i64 i] Zl (fun v _=>v = .str (Znb s.l i)):=by
 refine Zo 0 14 [.tmp 4] Tryz.func83 fun X=>?_;refine Z1 ?_;refine Zy ?_
 by_cases hi:i<s.l.length
 ·have h1:decide ((i:Int)<s.l.length)=true:=zT
  have hg:=List.getElem?_eq_getElem hi;generalize s.l[i]=t at hg;rw [Z9e hg];refine Z1f h1 ?_;refine Za rfl (fun h8=>?_) (fun h8=>?_)
  ·exact Zq (zi hg @Zxb)
  ·cases h8
 ·have h1:decide ((i:Int)<s.l.length)=false:=zF
  refine Zf h1 ?_;rw [Zsh (by omega)]
theorem Zpx (G:Nat→V) (hG:GOk G) (c:Col) (s:Sl Tk) (i:Nat) :
  Spec Tryz.prog G 84 [Zd c 3 Z8a s,.int .i64 i] Zl (fun v _=>v = .bool (Zng s.l i)):=by
 refine Zo 0 17 [.tmp 4] Tryz.func84 fun X=>?_;refine Z1 ?_
 by_cases hi:i<s.l.length
 ·have h1:decide ((i:Int)<s.l.length)=true:=zT
  have hg:=List.getElem?_eq_getElem hi;generalize s.l[i]=t at hg;rw [Zmg hg];exact Zq (zi h1 (zi hg @Zxb))
 ·have h1:decide ((i:Int)<s.l.length)=false:=zF
  rw [Z2e (by omega)];exact Zq h1
def Zsa (c:Col) (s:ASt):V := .agg [.int .u8 s.kind,.str s.name,Zd c 6 Zca (Zea s.x)]
theorem Zcg (c:Col) (s:ASt):Zsa c s = .agg [.int .u8 s.kind,.str s.name,Zd c 6 Zca (Zea s.x)]:=rfl
def encSR (r:ASt × Int × Int):V := .tuple [Zsa .new r.1,.int .i64 r.2.1,.int .i64 r.2.2]
theorem Zn4 (G:Nat→V) (hG:GOk G) (c:Col) (sl:Sl Tk) (hT:TkOk sl.l) (i:Nat) (hi:i≤sl.l.length) :
  Spec Tryz.prog G 39 [Zd c 3 Z8a sl,.int .i64 i] Zl (fun v _=>v=encSR (Zoc sl.l i)):=by
 have hP:Zoc sl.l i=if Znb sl.l i=Zmd then Z5d sl.l 2 [40] [[41],[59]] (i+1) else Z5d sl.l 1 [58,61] [[59]] i:=rfl
 generalize Zoc sl.l i=res at hP ⊢;have hTl:=hT.len;refine Zo 0 98 [.cell 4 98,.tmp 5,.tmp 6] Tryz.func39 fun X=>?_;refine Z1 ?_;intro g4;refine Z1 ?_;intro g7;refine Z1 ?_;intro g15;refine Z1 ?_;intro g16
 refine Z9 (fun (x:(Nat × Int) × List UInt8 × List (List UInt8))=>st [(0,Zd c 3 Z8a sl),(1,.int .i64 x.1.1),(4,.ptr 4 g4 0),(7,.ptr 7 g7 0),(8,Zd .new 1 V.str (.mk false [x.2.1])),(9,Zd .new 1 V.str (.mk false x.2.2))] [(4,.cells .new g4 0 [.int .u8 0,.str [],.nils]),(7,.cells .new g7 0 [.int .u8 x.1.2,.str [],.nils])])
  (fun x=>x.1.1≤sl.l.length+1∧(x.1.2=1∨x.1.2=2)∧x.2.2.length≤2∧x.2.1≠[]∧res=Z5d sl.l x.1.2 x.2.1 x.2.2 x.1.1) (fun K1 hK1=>?_) ?_
 ·refine Z1 ?_
  refine Znf @Z2a hG ?_ (s:=(Z8i G hG _ sl i))
  by_cases he:Znb sl.l i=Zmd
  ·rw [if_pos he] at hP
   rw [he];unfold Zmd;have q1:(([101,109,105,116]:List UInt8)==[101,109,105,116])=true:=rfl;refine Zsf q1 ?_;refine Z1 ?_;refine Z1 ?_;intro g22;refine Z1 ?_;intro g23
   have hw:IntKind.i64.wrap ((i:Int)+1)=((i+1:Nat):Int):=by rw [w64 (by omega) (by omega)];omega
   refine Z1f hw ?_;refine hK1 _ ((i+1,2),[40],[[41],[59]]) ⟨by show i+1≤_;omega,.inr rfl,by show (2:Nat)≤2;decide,by show ([40]:List UInt8)≠[];decide,hP⟩ (Z2 (fun o=>o==22 || o==23) ?_ ?_)
   ·refine Zs ?_
    exact ⟨Ze _,Ze _,Ze _,Ze _,Fz.sl (f:=V.str) (l:=[[40]]) (m:=1) (g:=g22) (fz:=0) (c := .new) rfl zp (fun _=>rfl),Fz.sl (f:=V.str) (l:=[[41],[59]]) (m:=1) (g:=g23) (fz:=0) (c := .new) rfl zp (fun _=>rfl)⟩
   ·simp only [Zp,Zz,and_true]
    exact ⟨FzO.keep rfl zp,FzO.keep rfl zp⟩
  ·rw [if_neg he] at hP
   have q1:(Znb sl.l i==[101,109,105,116])=false:=by rw [beq_eq_false_iff_ne];exact he
   refine Zsf q1 ?_;refine Z0 ?_;refine hK1 _ ((i,1),[58,61],[[59]]) ⟨by show i≤_;omega,.inl rfl,by show (1:Nat)≤2;decide,by show ([58,61]:List UInt8)≠[];decide,hP⟩ (Z2 (fun o=>o==15 || o==16) ?_ ?_)
   ·refine Zs ?_
    exact ⟨Ze _,Ze _,Ze _,Ze _,Fz.sl (f:=V.str) (l:=[[58,61]]) (m:=1) (g:=g15) (fz:=0) (c := .new) rfl zp (fun _=>rfl),Fz.sl (f:=V.str) (l:=[[59]]) (m:=1) (g:=g16) (fz:=0) (c := .new) rfl zp (fun _=>rfl)⟩
   ·simp only [Zp,Zz,and_true]
    exact ⟨FzO.keep rfl zp,FzO.keep rfl zp⟩
 try clear hP
 rintro ⟨⟨j,k⟩,w,ws⟩ ⟨hj,hk,hws,hwne,hP⟩;simp only at hj hk hws hwne hP;have hl1:(Sl.mk false [w]).l=[w]:=rfl;refine Z1 ?_;refine Znf @Z2a hG ?_ (s:=(Zpx G hG _ sl j));unfold Z5d at hP
 cases hn:Zng sl.l j with
 | false =>
  rw [if_pos hn] at hP;refine Zs ?_;refine Z ?_
  rw [hP]<;>rfl
 | true =>
 rw [if_neg (by rw [hn];decide)] at hP
 have hjl:j<sl.l.length:=by
  refine Classical.byContradiction fun h=>?_;rw [Z2e (by omega)] at hn;cases hn
 have hg:=List.getElem?_eq_getElem hjl;generalize sl.l[j]=t at hg;rw [Z9e hg] at hP;refine Zs ?_;refine Z0 ?_
 have hw:IntKind.i64.wrap ((j:Int)+1)=((j+1:Nat):Int):=by rw [w64 (by omega) (by omega)];omega
 have hw2:IntKind.i64.wrap (((j+1:Nat):Int)+1)=((j+2:Nat):Int):=by rw [w64 (by omega) (by omega)];omega
 refine Z1f (zi hg @Zxb) ?_;refine Z1f hw ?_
 have p1:Zni Tryz.prog G 83 [Zd c 3 Z8a sl,.int .i64 ((j+1:Nat):Int)] (.str (Znb sl.l (j+1))):=⟨by kernel_rfl,by
  refine Zsf @Z2a ?_;refine (Z8i G hG _ sl (j+1)).mono ?_;rintro _ _ rfl
  rfl⟩
 refine Zy ?_
 refine Zy <| Z5 ⟨fun i=>if i=2 then .str (Znb sl.l (j+1)) else .top,fun _ => .pure⟩ (by kernel_rfl) hG (by kernel_rfl) (by kernel_rfl) ?_
 simp -implicitDefEqProofs only[go_sem,seval,↓reduceIte,hl1,List.getElem?_cons_zero];refine ⟨p1,?_⟩
 by_cases hw1:Znb sl.l (j+1)=w
 rotate_left
 ·rw [if_pos hw1] at hP
  have q1:(Znb sl.l (j+1)==w)=false:=by simpa using hw1
  rw [q1];refine Z ?_
  rw [hP]<;>rfl
 rw [if_neg (by simpa using hw1)] at hP
 have q1:(Znb sl.l (j+1)==w)=true:=by simpa using hw1
 rw [q1]
 try clear p1
 refine Z0 ?_
 have hjl1:j+1<sl.l.length:=by
  refine Classical.byContradiction fun h=>?_;rw [Zsh (by omega)] at hw1;exact hwne hw1.symm
 refine Z1f hw2 ?_
 refine Z9 (fun (x:Nat × List XN)=>st [(0,Zd c 3 Z8a sl),(1,.int .i64 x.1),(4,.ptr 4 g4 0),(7,.ptr 7 g7 0),(9,Zd .new 1 V.str (.mk false ws))] [(4,.cells .new g4 0 [.int .u8 0,.str [],.nils]),(7,.cells .new g7 0 [.int .u8 k,.str t.text,Zd .new 6 Zca (Zea x.2)])])
  (fun x=>x.1≤sl.l.length+2∧res=Z3g sl.l ⟨k,t.text,x.2⟩ ws x.1) (fun K4 hK4=>?_) ?_
 ·refine Z9 (fun (b:Bool)=>st [(0,Zd c 3 Z8a sl),(1,.int .i64 ((j+2:Nat):Int)),(4,.ptr 4 g4 0),(7,.ptr 7 g7 0),(9,Zd .new 1 V.str (.mk false ws)),(59,.bool b)] [(4,.cells .new g4 0 [.int .u8 0,.str [],.nils]),(7,.cells .new g7 0 [.int .u8 k,.str t.text,.nils])])
   (fun b=>b=true ↔ ¬ (k=2∧Znb sl.l (j+2)=[41])) (fun K5 hK5=>?_) ?_
  ·rcases hk with rfl | rfl
   ·refine AW.region (by kernel_rfl) ?_
    have q2:((1:Int)==1)=true:=rfl;refine Zsf q2 ?_;exact hK5 _ true ⟨fun _ h=>absurd h.1 (by decide),fun _=>rfl⟩ (Zb zp zp)
   ·refine AW.region (by kernel_rfl) ?_
    have q2:((2:Int)==1)=false:=rfl;refine Zsf q2 ?_;refine Zcf @Z2a hG ?_ (s:=(Z8i G hG _ sl (j+2)));refine hK5 _ (!(Znb sl.l (j+2)==[41])) ⟨fun h h2=>?_,fun h=>?_⟩ (Zb zp zp)
    ·rw [h2.2] at h;cases h
    ·have:¬ Znb sl.l (j+2)=[41]:=fun h3=>h ⟨rfl,h3⟩
     simpa using this
  intro b hb
  cases b with
  | false =>
   have hq:k=2∧Znb sl.l (j+2)=[41]:=Classical.byContradiction fun h=>by have:=hb.2 h;cases this
   rw [if_pos hq] at hP;refine Z0 ?_;exact hK4 _ (j+2,[]) ⟨by show j+2≤_;omega,hP⟩ (Zb zp zp)
  | true =>
  have hq:=hb.1 rfl;rw [if_neg hq] at hP;unfold Z1j at hP;refine Zpe rfl ?_;have hj2:j+2≤sl.l.length:=hjl1
  have hsub:(sl.sub (j+2) sl.l.length).l=sl.l.drop (j+2):=by rw [Zx2];exact List.take_of_length_le (by rw [List.length_drop];omega)
  have hfr:=fun c=>Zq3 G hG c (sl.sub (j+2) sl.l.length) (by rw [hsub];exact ⟨by rw [List.length_drop];omega,fun t ht=>hT.text t (List.mem_of_mem_drop ht)⟩);have hbd:=Z5h (l:=sl.l.drop (j+2));rw [hsub] at hfr;rw [List.length_drop] at hbd;generalize Z9c (sl.l.drop (j+2))=p at hP hfr hbd;obtain ⟨xs,n,e⟩:=p;simp only at hP hbd
  have hw3:IntKind.i64.wrap (((j+2:Nat):Int)+n)=((j+2+n.toNat:Nat):Int):=by rw [w64 (by omega) (by omega)];omega
  have hll:sl.l.length≤sl.l.length:=Nat.le_refl _;refine Zdc (by kernel_rfl) ?_;simp -implicitDefEqProofs only[go_sem,seval,↓reduceIte,hj2,hll,and_self];refine Znf @Z2a hG ?_ (s:=(hfr _));refine Zsf (zi @encRr.eq_1 (zi @encXs.eq_1 @Z4)) ?_;refine Z1f hw3 ?_;refine Zy ?_
  by_cases he:e=0
  rotate_left
  ·rw [if_pos he] at hP
   have q2:(e==0)=false:=by simpa using he
   refine Zdc (by kernel_rfl) ?_;simp -implicitDefEqProofs only[go_sem,seval,↓reduceIte,bne,q2];refine Z ?_
   rw [hP,show ((j+2:Nat):Int)+n=((j+2+n.toNat:Nat):Int) by omega]<;>rfl
  rw [if_neg (by simpa using he)] at hP
  have q2:(e==0)=true:=by simpa using he
  refine Zdc (by kernel_rfl) ?_;simp -implicitDefEqProofs only[go_sem,seval,↓reduceIte,bne,q2];refine Z1 ?_;exact hK4 _ (j+2+n.toNat,xs) ⟨by show j+2+n.toNat≤_;omega,hP⟩ (Zb zp zp)
 rintro ⟨i2,xs⟩ ⟨hi2,hP⟩;simp only at hi2 hP;unfold Z3g at hP;refine Zh fun K5 hK5=>?_;refine Z1 ?_;refine AW.block ?_
 refine Zua ws.length (fun m (_:Unit)=>st [(0,Zd c 3 Z8a sl),(1,.int .i64 ((i2+m:Nat):Int)),(4,.ptr 4 g4 0),(7,.ptr 7 g7 0),(9,Zd .new 1 V.str (.mk false ws)),(13,.int .i64 m)] [(4,.cells .new g4 0 [.int .u8 0,.str [],.nils]),(7,.cells .new g7 0 [.int .u8 k,.str t.text,Zd .new 6 Zca (Zea xs)])])
  (fun m _=>Zwb sl.l ws i2=Zwb sl.l (ws.drop m) (i2+m)) 0 () (Nat.zero_le _) rfl (Zb zp zp) ?_
 intro m _ hm hR L7 hL7;refine Zy ?_;have hwl:(Sl.mk false ws).l=ws:=rfl;refine Z1f hwl ?_;refine Za rfl (fun h81=>?_) (fun h81=>?_);rotate_left
 ·have hm2:m=ws.length:=by have:=zN h81;omega
  rw [List.drop_eq_nil_of_le (by omega)] at hR;refine Z0 ?_;refine hK5 _ ?_;refine Z ?_;rw [hP,hR]
  show _=encSR (_,((i2+m:Nat):Int),if true=true then 0 else 110)
  rfl
 have hm1:m<ws.length:=zL h81;have hgm:ws[m]? = some ws[m]:=List.getElem?_eq_getElem hm1;have hdr:ws.drop m=ws[m]::ws.drop (m+1):=List.drop_eq_getElem_cons hm1;generalize ws[m]=w2 at hgm hdr;rw [hdr,Zwb] at hR;refine Z0 ?_
 have p2:Zni Tryz.prog G 83 [Zd c 3 Z8a sl,.int .i64 ((i2+m:Nat):Int)] (.str (Znb sl.l (i2+m))):=⟨by kernel_rfl,by
  refine Zsf @Z2a ?_;refine (Z8i G hG _ sl (i2+m)).mono ?_;rintro _ _ rfl
  rfl⟩
 refine Zy ?_;refine AW.block ?_;refine Zy ?_
 refine Zy <| Z5 ⟨fun i=>if i=2 then .str (Znb sl.l (i2+m)) else .top,fun _ => .pure⟩ (by kernel_rfl) hG (by kernel_rfl) (by kernel_rfl) ?_
 refine Zsf (zi hwl hgm) ?_;refine ⟨p2,?_⟩
 try clear p2
 by_cases hw4:Znb sl.l (i2+m)=w2
 rotate_left
 ·rw [if_neg hw4] at hR
  have q2:(Znb sl.l (i2+m)==w2)=false:=by simpa using hw4
  rw [q2];refine Z ?_
  rw [hP,hR]<;>rfl
 rw [if_pos hw4] at hR
 have q2:(Znb sl.l (i2+m)==w2)=true:=by simpa using hw4
 rw [q2];refine Z0 ?_
 have hw5:IntKind.i64.wrap (((i2+m:Nat):Int)+1)=((i2+(m+1):Nat):Int):=by rw [w64 (by omega) (by omega)];omega
 have hw6:IntKind.i64.wrap ((m:Int)+1)=((m+1:Nat):Int):=by rw [w64 (by omega) (by omega)];omega
 refine Z1f hw5 ?_;refine Z1f hw6 ?_;exact hL7 _ ⟨hm1,(),hR,Zb zp zp⟩
end Go.Hs
end

section
namespace Go.Proofs
open Go.Shelf
def Zzp:Go.Shelf.Ren:=⟨fun | 4=>232 | n=>n,fun | 22=>36 | 25=>9 | 3=>3 | 4=>4 | 9=>9 | 20=>20 | 0=>0 | n=>n,fun | n=>n⟩
theorem Z0p:Go.Proofs.Lays8.n4 Tryz.prog Zzp:={
 mixed:=by kernel_rfl
 f4:=⟨Tryz.f232.name,by decide,Tryz.func232.trans (congrArg some (by kernel_rfl))⟩
 t0:=Tryz.underlying0
 a0:=Tryz.isAgg0
 z0:=Tryz.sizeOf0
 v0:=Tryz.zeroValue0
 t3:=Tryz.underlying3
 a3:=Tryz.isAgg3
 z3:=Tryz.sizeOf3
 v3:=Tryz.zeroValue3
 t4:=Tryz.underlying4
 a4:=Tryz.isAgg4
 z4:=Tryz.sizeOf4
 v4:=Tryz.zeroValue4
 t9:=Tryz.underlying9
 a9:=Tryz.isAgg9
 z9:=Tryz.sizeOf9
 v9:=Tryz.zeroValue9
 t20:=Tryz.underlying20
 a20:=Tryz.isAgg20
 z20:=Tryz.sizeOf20
 v20:=Tryz.zeroValue20
 t22:=Tryz.underlying36
 a22:=Tryz.isAgg36
 z22:=Tryz.sizeOf36
 v22:=Tryz.zeroValue36 }
end Go.Proofs
end

section
namespace Go.Hs
open Go.Proofs
set_option maxRecDepth 10000
theorem Z44 (z:Array Value) (n:Nat) (h:z.size=1):(Builtin.zeroCells z n).size=n:=by
 simp [Builtin.zeroCells,h]
theorem Zd7 {G:Nat→V} (hG:GOk G) (o n:Nat) (hn:n≤1000000000) {H:Heap} {K:V→Heap→Prop} (h0:n=0→K .nils H) (h1:n≠0→∀ g,K (.msl o g 0 0 1) (upd H o (.cells .new g 0 []))) :
  CallA Tryz.prog G 232 [.nils,.int .i64 n] H K:=by
 refine ⟨by kernel_rfl,fun X cargs hI _ hA=>?_⟩;obtain ⟨x,y,rfl,hx,hy⟩:=hA.two;cases hx;cases hy
 by_cases hz:n=0
 ·subst hz
  refine (show Calls Tryz.prog 232 _ _ _ from Any8.slices_Grow_room Z0p none 0 0 0 X.w (by omega) (by omega) (by omega) (by omega)).mono ?_;rintro e w' ⟨rfl,rfl⟩;exact ⟨_,.nils,H,X,rfl,rfl,Goes.refl hI,.nils,h0 rfl⟩
 ·obtain ⟨i0,hi0,hb,hs,z,hz0,hzs⟩:∃ i0,Tryz.prog.info? 9=some i0∧i0.bytes=16∧i0.size=1∧∃ z,i0.zero=some z∧z.cells.size=1:=by
   have hb:Z1m Tryz.prog 9=some 16:=by kernel_rfl
   have hz:Zgc Tryz.prog 9=some 1:=by kernel_rfl
   have h0:((Tryz.prog.info? 9).bind fun i=>i.zero.map fun z=>z.cells.size)=some 1:=by kernel_rfl
   unfold Z1m at hb;unfold Zgc at hz
   cases hi:Tryz.prog.info? 9 with
   | none=>rw [hi] at hb;cases hb
   | some i0 =>
    rw [hi] at hb hz h0;simp only [Option.map_some,Option.some.injEq,Option.bind_some] at hb hz h0
    cases hz0:i0.zero with
    | none=>rw [hz0] at h0;cases h0
    | some z =>
     rw [hz0] at h0;simp only [Option.map_some,Option.some.injEq] at h0;exact ⟨i0,rfl,hb,hz,z,hz0,h0⟩
  refine (show Calls Tryz.prog 232 _ _ _ from Any8.slices_Grow_grow Z0p i0 z hi0 hz0 (by omega) none 0 0 n [] X.w (by omega) (by omega) (by rw [hb];omega) (by omega) (by simp) (fun _=>rfl) (fun a ha=>by cases ha)).mono ?_;rintro e w' ⟨rfl,rfl⟩;have hge:=grownCap_ge X.w (0+n) 0 9
  obtain ⟨v,H',Y,e1,e2,e3,e4⟩:=Ztg hI o (E:=1) (need:=0) (cap:=grownCap X.w (0+n) 0 9) (xs:=[]) (cs:=[]) ⟨rfl,fun _ h=>by simp at h,fun i h=>by simp at h⟩ rfl (Nat.zero_le _) 9
   (Builtin.zeroCells z.cells (0+n-0)++Builtin.zeroCells z.cells (grownCap X.w (0+n) 0 9-(0+n))) (by rw [Array.size_append,Z44 _ _ hzs,Z44 _ _ hzs];omega) .new (.inl rfl) 0 (h1 hz)
  refine ⟨_,v,H',Y,rfl,?_,e2,e3,e4⟩;rw [e1];simp;rfl
theorem Z0w (l:List (List UInt8)):flat (l.map V.str)=l.map V.str:=by
 induction l with
 | nil=>rfl
 | cons x r ih=>unfold flat at ih ⊢;rw [List.map_cons,List.flatMap_cons,ih]<;>rfl
def Z5s (c c1:Col) (s:Sl (Sl (List UInt8))):V:=Zd c 1 (fun t=>Zd c1 1 V.str t) s
def Zfm (l:List (Sl (List UInt8))):List (List UInt8):=l.flatMap Sl.l
theorem Zex {l:List (Sl (List UInt8))} {k:Nat} {t:Sl (List UInt8)} (h:l[k]? = some t):Zfm (l.take (k+1))=Zfm (l.take k)++t.l:=by
 unfold Zfm;rw [List.take_add_one,h,List.flatMap_append];simp
theorem Zo2 {l:List (Sl (List UInt8))} {k:Nat}:(Zfm (l.take k)).length≤(Zfm l).length:=by
 unfold Zfm
 conv=>rhs;rw [← List.take_append_drop k l,List.flatMap_append,List.length_append]
 omega
theorem Z3v (G:Nat→V) (hG:GOk G) (c c1:Col) (s:Sl (Sl (List UInt8))) (hs:s.l.length<1000000) (hl:(Zfm s.l).length<1000000) (hne:(Zfm s.l).length≠0) :
  Spec Tryz.prog G 161 [Z5s c c1 s] Zl (fun v _=>v=Zd .new 1 V.str (.mk false (Zfm s.l))):=by
 refine Zo 0 36 [.tmp 2] Tryz.func161 fun X=>?_;unfold Z5s;refine Z1 ?_;refine Z1 ?_;refine Z1 ?_;refine AW.block ?_
 refine Zua s.l.length (fun k (_:Unit)=>st [(0,Zd c 1 (fun t=>Zd c1 1 V.str t) s),(3,.int .i64 (Zfm (s.l.take k)).length),(9,Zd c 1 (fun t=>Zd c1 1 V.str t) s),(10,.int .i64 s.l.length),(11,.int .i64 k)] [])
  (fun _ _=>True) 0 () (Nat.zero_le _) trivial (Zb zp zp) ?_
 intro k _ hk _ L2 hL2;refine Z1 ?_;refine Zy ?_;refine Za rfl (fun h12=>?_) (fun h12=>?_)
 ·have hk1:k<s.l.length:=by simpa using h12
  have hg:=List.getElem?_eq_getElem hk1;have htk:=Zex hg;have hle:=Zo2 (l:=s.l) (k:=k+1);generalize s.l[k]=t at hg htk;refine Z0 ?_;refine Zy ?_;refine AW.block ?_
  have hlen:(Zfm (s.l.take (k+1))).length=(Zfm (s.l.take k)).length+t.l.length:=by rw [htk,List.length_append]
  have hw:IntKind.i64.wrap (((Zfm (s.l.take k)).length:Int)+(t.l.length:Int))=(((Zfm (s.l.take k)).length+t.l.length:Nat):Int):=by rw [w64 (by omega) (by omega)];omega
  have hnn:decide ((((Zfm (s.l.take k)).length+t.l.length:Nat):Int)<0)=false:=zF;refine Z1f hg ?_;refine Z1f hw ?_;refine Z1f hnn ?_;refine Z1 ?_;refine hL2 _ ⟨hk1,(),trivial,Zb (by rw [hlen];simp -implicitDefEqProofs only[go_sem,seval,↓reduceIte];exact congrArg _ (w64 (by omega) (by omega))) zp⟩
 ·have hk1:k=s.l.length:=by simp at h12;omega
  refine Z0 ?_;rw [hk1,List.take_length];refine Z1 ?_;refine Zd7 hG 1024 (Zfm s.l).length (by omega) (fun h=>absurd h hne) fun _ g24=>?_;refine Zs ?_;refine Z1 ?_;refine AW.block ?_
  refine Zua s.l.length (fun k (g:Nat)=>st [(0,Zd c 1 (fun t=>Zd c1 1 V.str t) s),(6,.msl 1024 g 0 (Zfm (s.l.take k)).length 1),(25,Zd c 1 (fun t=>Zd c1 1 V.str t) s),(26,.int .i64 s.l.length),(27,.int .i64 k)] [(1024,.cells .new g 0 (flat ((Zfm (s.l.take k)).map V.str)))])
   (fun _ _=>True) 0 g24 (Nat.zero_le _) trivial (Zb zp zp) ?_
  intro k g hk _ L6 hL6;refine Z1 ?_;refine Zy ?_;refine Za rfl (fun h28=>?_) (fun h28=>?_)
  ·have hk1:k<s.l.length:=by simpa using h28
   have hg:=List.getElem?_eq_getElem hk1;have htk:=Zex hg;have hle:=Zo2 (l:=s.l) (k:=k+1);generalize s.l[k]=t at hg htk
   have hlen:(Zfm (s.l.take (k+1))).length=(Zfm (s.l.take k)).length+t.l.length:=by rw [htk,List.length_append]
   refine Z1f hg ?_;refine Z1 ?_
   have hfl:∀ l:List (List UInt8),(flat (l.map V.str)).length=l.length:=fun l=>by rw [Z0w,List.length_map]
   have hcl:List.take ((Zfm (s.l.take k)).length * 1) (flat ((Zfm (s.l.take k)).map V.str))++flat (t.l.map V.str)=flat ((Zfm (s.l.take (k+1))).map V.str):=by
    rw [htk,List.map_append,Zte,Nat.mul_one,List.take_of_length_le (by rw [hfl];omega)]
   refine ⟨Zda (by omega) (by omega),by rw [hfl];omega,by omega,fun g2=>?_⟩;rw [hcl,← hlen];refine Z1 ?_;refine hL6 _ ⟨hk1,g2,trivial,Zb zw zp⟩
  ·have hk1:k=s.l.length:=by simp at h28;omega
   refine Z0 ?_;rw [hk1,List.take_length];refine AW.weak (Z2 (fun o=>o==1024) (l:=[(6,Zd .new 1 V.str (.mk false (Zfm s.l)))]) (m:=[]) ?_ trivial) ?_
   ·refine Zs ?_
    exact Fz.sl (f:=V.str) (l:=Zfm s.l) (m:=1) (g:=g) (fz:=0) (c := .new) rfl zp (fun _=>rfl)
   exact Zr
end Go.Hs
end

section
namespace Go.Hs
def Zzy (c:UInt8):Bool:=c==32 || c==10
theorem Zh9 {c:UInt8} (h:Zzy c=true):Zja c=false∧Zzd c=false∧Znh c=true∧c≠45:=by
 simp only [Zzy,Bool.or_eq_true,beq_iff_eq] at h
 rcases h with rfl | rfl<;>decide
theorem Zmn {p:UInt8→Bool} {c:UInt8} (h:p c=false) (r:List UInt8):∀ u:List UInt8,Zxc p (u++c::r)=Zxc p u
 | []=>by simp [Zxc,h]
 | a::u=>by
  rw [List.cons_append,Zjg,Zjg,Zmn h r u]
theorem Zc9 {u r:List UInt8} {k:Nat} (h:k≤u.length):(u++r).take k=u.take k:=by
 rw [List.take_append_of_le_length h]
theorem Zir {c:UInt8} (h:c≠45) (r:List UInt8) {u:List UInt8} (hu:u≠[]):Zfa [45,45] (u++c::r)=Zfa [45,45] u:=by
 match u with
 | []=>exact absurd rfl hu
 | [a] =>
  have:(45==c)=false:=by rw [beq_eq_false_iff_ne];exact fun q=>h q.symm
  simp [Zfa,List.isPrefixOf,this]
 | a::b::u=>simp [Zfa,List.isPrefixOf]
theorem Zq9 {c:UInt8} (h:Zzy c=true) (a:UInt8):sg2.contains [a,c]=false:=by
 simp only [Zzy,Bool.or_eq_true,beq_iff_eq] at h
 rcases h with rfl | rfl<;>simp [sg2]
theorem Zp9 {c:UInt8} (h:Zzy c=true) (r:List UInt8) {u:List UInt8} (hu:u≠[]):Zj1 (u++c::r)=Zj1 u:=by
 match u with
 | []=>exact absurd rfl hu
 | [a] =>
  rw [List.cons_append,List.nil_append,Z0f,Zq9 h,Zrk,Zed,Zgs (by simp)];simp
 | a::b::u=>rw [List.cons_append,List.cons_append,Z0f,Z0f]
theorem Z2w {c:UInt8} (h:Zzy c=true) (r:List UInt8) {u:List UInt8} (hu:u≠[]):Zba (u++c::r)=Zba u:=by
 obtain ⟨h1,h2,h3,h4⟩:=Zh9 h;have hpre:=Zir h4 r hu;have hd:=Zmn h1 r u;have ha:=Zmn h2 r u;have hs:=Zp9 h r hu
 cases u with
 | nil=>exact absurd rfl hu
 | cons a u =>
  rw [List.cons_append] at hpre hd ha hs ⊢
  rcases Zjl a with q | ⟨_,q⟩ | ⟨q,_,_⟩
  ·rw [Zpg q,Zpg q,hd]
  ·rw [Z7i q,Z7i q,ha]
   have:=Zc9 (u:=a::u) (r:=c::r) (Z8d Zzd (a::u));rw [List.cons_append] at this;rw [this]
  ·by_cases hp:Zfa [45,45] (a::u)=true
   ·rw [hp] at hpre
    rw [Zqc,Zqc,if_pos hpre,if_pos hp]
   ·have hp:Zfa [45,45] (a::u)=false:=by simpa using hp
    rw [hp] at hpre;rw [Zue q hpre,Zue q hp,hs]
theorem Zyd {w:List UInt8} (h:isP w≠0):Zba w=(w.length,isP w)∧0<w.length∧w.length≤64:=by
 unfold isP at h ⊢
 split at h
 ·exact absurd rfl h
 ·rename_i q
  rw [if_neg q];simp only [not_or,Decidable.not_not,Nat.not_lt] at q;refine ⟨Prod.ext q.1 rfl,?_,by omega⟩
  cases w with
  | nil=>exact absurd rfl h
  | cons=>simp
def Stp (s:List UInt8):Prop:=s=[]∨∃ c r,s=c::r∧Zzy c=true
theorem Zmr {w s:List UInt8} (h:isP w≠0) (hs:Stp s):Zba (w++s)=(w.length,isP w):=by
 obtain ⟨h1,h2,_⟩:=Zyd h
 rcases hs with rfl | ⟨c,r,rfl,hc⟩
 ·rw [List.append_nil];exact h1
 ·rw [Z2w hc r (by intro q;rw [q] at h2;exact absurd h2 (by decide))];exact h1
theorem Z42 {w s:List UInt8} (h:isP w≠0) (hs:Stp s):Zhp (w++s):=by
 have hf:=Zmr h hs;obtain ⟨h1,h2,_⟩:=Zyd h;intro c r e;rw [e] at hf
 constructor
 ·cases hb:Znh c with
  | false=>rfl
  | true =>
   have:Zba (c::r)=(0,0):=by
    have ha:Zzd c=false:=by
     have:=Z1n (fun c => !(Znh c && Zzd c)) (by decide +kernel) c;simp only [hb,Bool.true_and,Bool.not_eq_true'] at this;exact this
    by_cases hp:Zfa [45,45] (c::r)=true
    ·rw [Zqc,if_pos hp]
    ·have hp:Zfa [45,45] (c::r)=false:=by simpa using hp
     rw [Zue ha hp]
     have hz:Zj1 (c::r)=0:=by
      have hc:∀ d,sg2.contains [c,d]=false∧sg1.contains [c]=false:=by
       intro d;have:=Z1n (fun c => !Znh c || (!(c==58) && !(c==60) && !(c==62) && !(sg1.contains [c]))) (by decide +kernel) c;simp only [hb,Bool.not_true,Bool.false_or,Bool.and_eq_true,Bool.not_eq_true',beq_eq_false_iff_ne] at this;refine ⟨?_,this.2⟩;obtain ⟨⟨⟨n1,n2⟩,n3⟩,_⟩:=this;simp [sg2,n1,n2,n3]
      cases r with
      | nil=>rw [Zrk,Zed,Zgs (by simp),(hc 0).2];rfl
      | cons d r=>rw [Z0f,(hc d).1,(hc d).2];rfl
     rw [hz];rfl
   rw [this] at hf;have:=congrArg Prod.fst hf;simp only at this;omega
 ·cases hp:Zfa [45,45] (w++s) with
  | false=>rfl
  | true =>
   rw [e] at hp
   have:Zba (c::r)=(0,0):=by rw [Zqc,if_pos hp]
   rw [this] at hf;have:=congrArg Prod.fst hf;simp only at this;omega
inductive Spc:List UInt8→List (List UInt8)→Prop where
 | nil (n:Nat):Spc (List.replicate n 32) []
 | cons (n:Nat) {w s:List UInt8} {ws:List (List UInt8)}:Spc s ws→Stp s→Spc (List.replicate n 32++(w++s)) (w::ws)
theorem Z8ba (n:Nat) {s:List UInt8} (h:Zhp s):blk (List.replicate n 32++s)=n:=by
 induction n with
 | zero=>exact Zy7 h
 | succ n ih=>rw [List.replicate_succ,List.cons_append,Z2m (by decide),ih]
theorem Spc.stp {s:List UInt8} {ws:List (List UInt8)} (h:Spc s ws) {n:Nat} (hn:0<n):Stp (List.replicate n 32++s):=by
 obtain ⟨m,rfl⟩:∃ m,n=m+1:=⟨n-1,by omega⟩;exact .inr ⟨32,_,by rw [List.replicate_succ,List.cons_append],rfl⟩
theorem Z88 {S:List UInt8}:∀ {s:List UInt8} {ws:List (List UInt8)},Spc s ws→∀ (i:Nat) (acc:List Tk),S.drop i=s→i≤S.length→(∀ w∈ws,isP w≠0) →
  ∃ l,Z3b (S.length+1) S (i+blk (S.drop i)) acc=(acc++l,0,0)∧l.map Z4d=ws:=by
 intro s ws h
 induction h with
 | nil n =>
  intro i acc hd hi _
  have hb:blk (S.drop i)=n:=by
   rw [hd,← List.append_nil (List.replicate n 32)]
   exact Z8ba n fun c r e=>by cases e
  have hl:S.length-i=n:=by rw [← List.length_drop,hd,List.length_replicate]
  refine ⟨[],?_,rfl⟩;rw [hb,Zaf (by omega),List.append_nil]
 | @cons n w s ws h1 h2 ih =>
  intro i acc hd hi hw;have hw1:=hw w (by simp);obtain ⟨p1,p2,p3⟩:=Zyd hw1
  have hb:blk (S.drop i)=n:=by rw [hd];exact Z8ba n (Z42 hw1 h2)
  have hd2:S.drop (i+n)=w++s:=by
   rw [← List.drop_drop,hd,List.drop_append,List.length_replicate,Nat.sub_self,List.drop_of_length_le (by simp)];rfl
  have hfs:=Zmr hw1 h2
  have hl:S.length-(i+n)=w.length+s.length:=by rw [← List.length_drop,hd2,List.length_append]
  rw [hb,Zgg (by omega) (by omega) (by rw [hd2,hfs];simp only;omega),hd2,hfs];simp only
  have hd3:S.drop (i+n+w.length)=s:=by rw [← List.drop_drop,hd2,List.drop_left]
  obtain ⟨l,e1,e2⟩:=ih (i+n+w.length) (acc++[⟨isP w,(w++s).take w.length,((i+n:Nat):Int)⟩]) hd3 (by omega) (fun v hv=>hw v (by simp [hv]));refine ⟨⟨isP w,(w++s).take w.length,((i+n:Nat):Int)⟩::l,?_,?_⟩
  ·rw [e1];simp
  ·rw [List.map_cons,e2]
   have ht:(w++s).take w.length=w:=by rw [List.take_left]
   unfold Z4d;rw [ht,if_pos rfl]
theorem Zj5 {s:List UInt8} {ws:List (List UInt8)} (h:Spc s ws) (hw:∀ w∈ws,isP w≠0) (hs:s.length≤65536):∃ l,Zbb s=(l,0,0)∧l.map Z4d=ws:=by
 obtain ⟨l,e1,e2⟩:=Z88 (S:=s) h 0 [] rfl (Nat.zero_le _) hw;refine ⟨l,?_,e2⟩;unfold Zbb;rw [if_neg (by omega)];simpa using e1
end Go.Hs
end

section
namespace Go.Hs
theorem Zgt (r:List UInt8):∀ (k:Nat) (s:List UInt8),s.length≤k→blk (s++10::r)=if blk s=s.length then s.length+1+blk r else blk s
 | _,[],_=>by
  rw [List.nil_append,Z2m (by decide),Zft];simp;omega
 | k+1,c::t,h=>by
  simp only [List.length_cons] at h;rw [List.cons_append]
  by_cases hb:Znh c=true
  ·rw [Z2m hb,Z2m hb,Zgt r k t (by omega),List.length_cons]
   split
   ·rename_i q
    rw [if_pos (by omega)];omega
   ·rename_i q
    rw [if_neg (by omega)]
  have hb:Znh c=false:=by simpa using hb
  have hpa:=Zir (c:=10) (by decide) r (u:=c::t) (by simp);rw [List.cons_append] at hpa
  by_cases hp:Zfa [45,45] (c::t)=true
  ·have hr:=Zmn (p:=Z4l) (c:=10) (by decide) r (c::t)
   rw [List.cons_append] at hr;rw [Zhm (by rw [hpa];exact hp),Zhm hp,hr];have hle:=Z8d Z4l (c::t);have h2:=(Z3f hp).1;generalize hm:Zxc Z4l (c::t)=m at hle h2
   have hd:(c::(t++10::r)).drop m=(c::t).drop m++10::r:=by
    rw [← List.cons_append,List.drop_append_of_le_length hle]
   have hl:((c::t).drop m).length=(c::t).length-m:=List.length_drop;simp only [List.length_cons] at hl hle;rw [hd,Zgt r k _ (by omega),hl,List.length_cons]
   split
   ·rename_i q
    rw [if_pos (by omega)];omega
   ·rename_i q
    rw [if_neg (by omega)]
  ·have hp:Zfa [45,45] (c::t)=false:=by simpa using hp
   rw [Zmp hb (by rw [hpa];exact hp),Zmp hb hp,List.length_cons,if_neg (by omega)]
 | 0,c::t,h=>by simp at h
inductive Lx:List UInt8→List (List UInt8)→Prop where
 | nil {s:List UInt8}:blk s=s.length→Lx s []
 | cons {s:List UInt8} {ws:List (List UInt8)} {k:Nat}:blk s<s.length→(Zba (s.drop (blk s))).1=k→0<k→k≤64→Lx ((s.drop (blk s)).drop k) ws→Lx s ((s.drop (blk s)).take k::ws)
theorem Z4s {s:List UInt8} (hb:blk s<s.length) {k:Nat} (hk:(Zba (s.drop (blk s))).1=k) (h0:0<k) (h64:k≤64) :
  isP ((s.drop (blk s)).take k)=(Zba (s.drop (blk s))).2∧(Zba (s.drop (blk s))).2≠0:=by
 have hc:=Znp s;generalize s.drop (blk s)=u at hk hc ⊢
 have hp:Zfa [45,45] u=false:=by
  cases u with
  | nil=>rfl
  | cons c r=>exact (hc c r rfl).2
 obtain ⟨q1,q2⟩:=Znr hp (by omega);rw [hk] at q1;refine ⟨?_,q2⟩;rw [Z6k,if_neg (by rw [List.length_take];omega),q1]
theorem lx_toks {S:List UInt8} {s:List UInt8} {ws:List (List UInt8)} (h:Lx s ws):∀ (i:Nat) (acc:List Tk),S.drop i=s→i≤S.length→∃ l,Z3b (S.length+1) S (i+blk (S.drop i)) acc=(acc++l,0,0)∧l.map Z4d=ws:=by
 induction h with
 | @nil s hb =>
  intro i acc hd hi;rw [hd,hb]
  have:S.length-i=s.length:=by rw [← List.length_drop,hd]
  exact ⟨[],by rw [Zaf (by omega),List.append_nil],rfl⟩
 | @cons s ws k hb hk h0 h64 _ ih =>
  intro i acc hd hi;obtain ⟨p1,p2⟩:=Z4s hb hk h0 h64
  have hl:S.length-i=s.length:=by rw [← List.length_drop,hd]
  have hd2:S.drop (i+blk s)=s.drop (blk s):=by rw [← List.drop_drop,hd]
  rw [hd,Zgg (by omega) (by omega) (by rw [hd2,hk];omega),hd2,hk];have hle:=Zqg (s.drop (blk s));rw [hk,List.length_drop] at hle
  have hd3:S.drop (i+blk s+k)=(s.drop (blk s)).drop k:=by rw [← List.drop_drop,hd2]
  obtain ⟨l,e1,e2⟩:=ih (i+blk s+k) (acc++[⟨(Zba (s.drop (blk s))).2,(s.drop (blk s)).take k,((i+blk s:Nat):Int)⟩]) hd3 (by omega);refine ⟨⟨(Zba (s.drop (blk s))).2,(s.drop (blk s)).take k,((i+blk s:Nat):Int)⟩::l,?_,?_⟩
  ·rw [e1];simp
  ·rw [List.map_cons,e2]
   unfold Z4d;simp only;rw [p1,if_pos rfl]
theorem Zaaa {s:List UInt8} {ws:List (List UInt8)} (h:Lx s ws) (hs:s.length≤65536):∃ l,Zbb s=(l,0,0)∧l.map Z4d=ws:=by
 obtain ⟨l,e1,e2⟩:=lx_toks (S:=s) h 0 [] rfl (Nat.zero_le _);refine ⟨l,?_,e2⟩;unfold Zbb;rw [if_neg (by omega)];simpa using e1
theorem Zi5 {S:List UInt8}:∀ (f i:Nat) (acc l:List Tk),S.length<f+i→i≤S.length→Z3b f S (i+blk (S.drop i)) acc=(l,0,0)→∃ l2,l=acc++l2∧Lx (S.drop i) (l2.map Z4d)
 | 0,i,acc,l,hf,hi,_=>by omega
 | f+1,i,acc,l,hf,hi,h=>by
  have hbl:=Ztr (S.drop i);rw [List.length_drop] at hbl
  by_cases hb:blk (S.drop i)<(S.drop i).length
  ·have hb':=hb
   rw [List.length_drop] at hb'
   have hdd:S.drop (i+blk (S.drop i))=(S.drop i).drop (blk (S.drop i)):=by rw [List.drop_drop]
   by_cases hk:(Zba (S.drop (i+blk (S.drop i)))).1=0∨(Zba (S.drop (i+blk (S.drop i)))).1 > 64
   ·rw [Z5n (by omega) (by omega) hk] at h
    have:=congrArg (fun x=>x.2.2) h;simp at this
   ·rw [Z3b,if_pos (by omega),if_neg hk] at h
    rw [hdd] at h hk;simp only [not_or,Nat.not_lt] at hk;have hle:=Zqg ((S.drop i).drop (blk (S.drop i)));rw [List.length_drop,List.length_drop] at hle;obtain ⟨p1,p2⟩:=Z4s hb rfl (by omega) (by omega);obtain ⟨l2,e1,e2⟩:=Zi5 f (i+blk (S.drop i)+(Zba ((S.drop i).drop (blk (S.drop i)))).1) _ l (by omega) (by omega) h;refine ⟨_::l2,by rw [e1,List.append_assoc];rfl,?_⟩;rw [List.map_cons]
    have hw:∀ p,Z4d ⟨(Zba ((S.drop i).drop (blk (S.drop i)))).2,((S.drop i).drop (blk (S.drop i))).take (Zba ((S.drop i).drop (blk (S.drop i)))).1,p⟩=((S.drop i).drop (blk (S.drop i))).take (Zba ((S.drop i).drop (blk (S.drop i)))).1:=by
     intro p;unfold Z4d;simp only;rw [p1,if_pos rfl]
    rw [hw];refine .cons hb rfl (by omega) (by omega) ?_;rw [← List.drop_drop,hdd] at e2;exact e2
  ·rw [List.length_drop] at hb
   rw [Zaf (by omega)] at h;have hl:acc=l:=congrArg Prod.fst h;refine ⟨[],by rw [hl,List.append_nil],.nil ?_⟩;rw [List.length_drop];omega
theorem Zas {s:List UInt8} {l:List Tk} (h:Zbb s=(l,0,0)):Lx s (l.map Z4d):=by
 unfold Zbb at h
 split at h
 ·have:=congrArg (fun x=>x.2.2) h
  simp at this
 ·have h2:Z3b (s.length+1) s (0+blk (s.drop 0)) []=(l,0,0):=by simpa using h
  obtain ⟨l2,e1,e2⟩:=Zi5 _ 0 [] l (by omega) (Nat.zero_le _) h2;rw [e1,List.nil_append];simpa using e2
theorem Spc.pad {s:List UInt8} {ws:List (List UInt8)} (h:Spc s ws) (n:Nat):Spc (List.replicate n 32++s) ws:=by
 cases h with
 | nil m=>rw [List.replicate_append_replicate];exact .nil _
 | cons m h1 h2=>rw [← List.append_assoc,List.replicate_append_replicate];exact .cons _ h1 h2
end Go.Hs
end

section
namespace Go.Hs.PutLaw
open Go Go.Hs
def chr (d:Nat):UInt8:=UInt8.ofNat (48+d)
def chars (l:List Nat):List UInt8:=(l.map chr).reverse
theorem decDigits_dg (u:Nat) (h:0<u):Lib.decDigits u=chars (dg u):=by
 induction u using Nat.strongRecOn with
 | _ u ih =>
  rw [Lib.decDigits,Zai h]
  by_cases h1:u<10
  ·rw [dif_pos h1,show u / 10=0 by omega,Zdg,Nat.mod_eq_of_lt h1]
   rfl
  ·rw [dif_neg h1,ih (u / 10) (by omega) (by omega)]
   simp [chars,chr]
theorem putR_dg (n:Int):Zoy n=if n=0 then [48] else if n<0 then 45::chars (dg n.natAbs) else chars (dg n.natAbs):=by
 unfold Zoy Lib.itoa
 by_cases h0:n=0
 ·subst h0
  simp;rw [Lib.decDigits];simp
 ·rw [if_neg h0]
  by_cases h1:n<0
  ·rw [if_pos h1,if_pos h1,decDigits_dg _ (by omega)]
  ·rw [if_neg h1,if_neg h1,show n.toNat=n.natAbs by omega,decDigits_dg _ (by omega)]
theorem Z9s {d:Nat} (h:d<10):(chr d).toNat=48+d:=by
 unfold chr;rw [UInt8.toNat_ofNat'];omega
theorem Zvaa {d:Nat} (h:d<10):Zeh (chr d)=d:=by
 unfold Zeh;rw [Z9s h];omega
theorem Za7 {d:Nat} (h:d<10):Zja (chr d)=true:=by
 unfold Zja;rw [Z9s h];simp;omega
theorem Z99 {l:List Nat} (h:Dig l):(chars l).reverse.map Zeh=l:=by
 unfold chars;rw [List.reverse_reverse,List.map_map];have:∀ d∈l,(Zeh ∘ chr) d=d:=fun d hd=>Zvaa (h d hd);rw [List.map_congr_left this];simp
theorem Zmx {l:List Nat} (h:Dig l):(chars l).all Zja=true:=by
 rw [List.all_eq_true];intro c hc;unfold chars at hc;obtain ⟨d,hd,rfl⟩:=List.mem_map.1 (List.mem_reverse.1 hc);exact Za7 (h d hd)
theorem Zhr (l:List Nat):(chars l).head? = l.getLast?.map chr:=by
 unfold chars;rw [List.head?_reverse,List.getLast?_map]
theorem Zc7 {m:Nat} (h:0<m):(chars (dg m)).head? ≠ some 48∧(chars (dg m)).head? ≠ some 45∧chars (dg m)≠[]:=by
 have hne:dg m≠[]:=by rw [Ne,dg_ne];omega
 obtain ⟨d,hd⟩:∃ d,(dg m).getLast? = some d:=⟨_,List.getLast?_eq_some_getLast hne⟩;have h0:=dg_last m d hd;have h9:d<10:=Zpr m d (List.mem_of_getLast? hd);rw [Zhr,hd];refine ⟨fun e=>?_,fun e=>?_,fun e=>?_⟩
 ·have:=Option.some.inj e
  have:=congrArg UInt8.toNat this;rw [Z9s h9] at this;have h48:(48:UInt8).toNat=48:=rfl;omega
 ·have:=Option.some.inj e
  have:=congrArg UInt8.toNat this;rw [Z9s h9] at this;have h45:(45:UInt8).toNat=45:=rfl;omega
 ·have e2:=Zhr (dg m)
  rw [e,hd] at e2;cases e2
theorem Zc6 {a:Int} (ha : -9223372036854775808≤a∧a≤9223372036854775807):Zrb (Zoy a)=(a,0):=by
 rw [putR_dg]
 by_cases h0:a=0
 ·rw [if_pos h0,h0];rfl
 ·rw [if_neg h0]
  have hm:0<a.natAbs:=by omega
  obtain ⟨h1,h2,h3⟩:=Zc7 hm
  have hv:val ((chars (dg a.natAbs)).reverse.map Zeh)=a.natAbs:=by rw [Z99 (Zpr _),Z84]
  have hall:=Zmx (Zpr a.natAbs)
  by_cases hn:a<0
  ·rw [if_pos hn]
   unfold Zrb;simp only [List.head?_cons,List.drop_succ_cons,List.drop_zero,show ((some (45:UInt8))==some 45)=true from rfl,if_true];rw [if_neg (by simp only [hall,h1,h3,Bool.true_eq_false,false_and,or_self,not_false_eq_true]),hv];rw [Z9r (by omega)];exact Prod.ext (by show -((a.natAbs:Nat):Int)=a;omega) rfl
  ·rw [if_neg hn]
   unfold Zrb
   have hb:((chars (dg a.natAbs)).head? == some 45)=false:=by simpa using h2
   simp only [hb,Bool.false_eq_true,if_false];rw [if_neg (by simp only [hall,h1,h3,Bool.true_eq_false,false_and,or_self,not_false_eq_true]),hv];rw [Z9r (by omega)];exact Prod.ext (by show ((a.natAbs:Nat):Int)=a;omega) rfl
end Go.Hs.PutLaw
end

section
namespace Go.Hs
open PutLaw
def parW (b:Bool) (ts:List (List UInt8)):List (List UInt8):=if b then [40]::(ts++[[41]]) else ts
def X.W:X→Int→List (List UInt8)
 | .leaf op num name,_=>[if op=1 then Zoy num else if op=2 then name else sgT op.toNat]
 | .un op a,k=>parW (9<k) (sgT op.toNat::a.W 9)
 | .bin op a b,k=>parW (lvl op.toNat<k) (a.W (lvl op.toNat)++sgT op.toNat::b.W (lvl op.toNat+1))
 | .ite a b c,_=>wIf::(a.W 0++wThen::(b.W 0++wElse::(c.W 0++[wEndif])))
def X.fit:X→Prop
 | .leaf _ num _=>num≤9223372036854775807
 | .un _ a=>a.fit
 | .bin _ a b=>a.fit∧b.fit
 | .ite a b c=>a.fit∧b.fit∧c.fit
theorem Z6h:∀ (x:X) (k:Int),(∀ n∈x.row k,n.num≤9223372036854775807)→x.fit
 | .leaf op num name,k,h=>h ⟨op,num,name,-1,-1,-1⟩ (by simp [X.row])
 | .un op a,k,h=>Z6h a k fun n hn=>h n (by simp [X.row,hn])
 | .bin op a b,k,h=>⟨Z6h a k fun n hn=>h n (by simp [X.row,hn]),Z6h b (k+a.size) fun n hn=>h n (by simp [X.row,hn])⟩
 | .ite a b c,k,h=>⟨Z6h a k fun n hn=>h n (by simp [X.row,hn]),Z6h b (k+a.size) fun n hn=>h n (by simp [X.row,hn]),Z6h c (k+a.size+b.size) fun n hn=>h n (by simp [X.row,hn])⟩
theorem Zyl {n:Int} (h0:0≤n) (h1:n≤9223372036854775807):(Zoy n).all Zja=true∧Zoy n≠[]∧(Zoy n).length≤19∧Z3c (Zoy n)=Zoy n:=by
 rw [putR_dg]
 by_cases hz:n=0
 ·subst hz;decide +kernel
 rw [if_neg hz,if_neg (by omega)]
 have hp:0<n.natAbs:=by omega
 have hd:=Zpr n.natAbs;obtain ⟨q1,q2,q3⟩:=Zc7 hp;refine ⟨Zmx hd,q3,?_,?_⟩
 ·have:=Zl2 (n:=n.natAbs) (k:=19) (by omega)
  have hl:(chars (dg n.natAbs)).length=(dg n.natAbs).length:=by simp [chars]
  omega
 ·unfold Z3c
  have:(chars (dg n.natAbs)).dropWhile (· == 48)=chars (dg n.natAbs):=by
   cases hc:chars (dg n.natAbs) with
   | nil=>rfl
   | cons c r =>
    rw [hc] at q1
    have:(c==48)=false:=by rw [beq_eq_false_iff_ne];intro q;exact q1 (by rw [q];rfl)
    rw [List.dropWhile_cons,this];rfl
  rw [this,if_neg q3]
theorem Zgr {t:List UInt8} (h:t.all Zja=true) (hne:t≠[]) (hl:t.length≤64):isP t=1:=by
 rw [Z6k,if_neg (by omega)]
 cases t with
 | nil=>exact absurd rfl hne
 | cons c r =>
  rw [List.all_cons,Bool.and_eq_true] at h;rw [Zik h.1,if_pos (by rw [List.all_cons,h.1,h.2];rfl)]
theorem Zvba {op:Int} (h:7≤op∧op≤21):1≤lvl op.toNat∧lvl op.toNat≤8∧ofI (sgT op.toNat) 2=some op.toNat∧isP (sgT op.toNat)≠0:=Zvo _ (by omega) (by omega)
theorem Gr.parW {n:Int} {ts:List (List UInt8)} {x:X} {b:Bool} (h:Gr (if b then 1 else n) ts x):Gr n (parW b ts) x:=by
 cases b
 ·exact h
 ·exact .par h
theorem Zrd {op num:Int} {name:List UInt8} (h:(X.leaf op num name).ok=true):(op=1∧0≤num∧name=[])∨(op=2∧num=0∧isP name=2)∨(op=3∧num=0∧name=[])∨(op=4∧num=0∧name=[]):=by
 simp only [X.ok,Bool.and_eq_true,decide_eq_true_eq] at h;obtain ⟨h1,h2⟩:=h;unfold Ztd at h1
 split at h1
 ·cases h1
 rename_i h0;simp only [not_or,Int.not_lt] at h0
 split at h1
 ·simp only [Bool.and_eq_true,beq_iff_eq] at h1
  rename_i q;exact .inr (.inl ⟨q,h1⟩)
 ·rename_i q
  simp only [Bool.and_eq_true,beq_iff_eq,Bool.or_eq_true] at h1 q h0
  rcases h1.2 with q1 | q1
  ·exact .inl ⟨q1,h0.2.2,h1.1⟩
  ·by_cases o1:op=1
   ·exact .inl ⟨o1,h0.2.2,h1.1⟩
   ·by_cases o3:op=3
    ·exact .inr (.inr (.inl ⟨o3,q1,h1.1⟩))
    ·exact .inr (.inr (.inr ⟨by omega,q1,h1.1⟩))
theorem W_gr:∀ (x:X),x.ok=true→x.fit→∀ k:Int,k≤9→Gr (max k 1) (x.W k) x
 | .leaf op num name,h,hf,k,hk=>by
  rcases Zrd h with ⟨rfl,h1,rfl⟩ | ⟨rfl,rfl,h1⟩ | ⟨rfl,rfl,rfl⟩ | ⟨rfl,rfl,rfl⟩
  ·obtain ⟨p1,p2,p3,p4⟩:=Zyl h1 hf
   simp only [X.W,if_pos];exact .num (Zgr p1 p2 (by omega)) (by rw [p4];exact Zc6 ⟨by omega,hf⟩)
  ·simp only [X.W]
   exact .name h1
  ·exact .tr
  ·exact .fa
 | .un op a,h,hf,k,hk=>by
  simp only [X.ok,Bool.and_eq_true,decide_eq_true_eq] at h;have ih:=W_gr a h.2 hf 9 (Int.le_refl _)
  have:op=5∨op=6:=by omega
  have hb:decide (9<k)=false:=by rw [decide_eq_false_iff_not];omega
  rw [X.W,hb]
  rcases this with rfl | rfl
  ·exact .neg (by omega) ih
  ·exact .not (by omega) ih
 | .bin op a b,h,hf,k,hk=>by
  simp only [X.ok,Bool.and_eq_true,decide_eq_true_eq] at h;obtain ⟨l1,l2,_,_⟩:=Zvba ⟨h.1.1.1,h.1.1.2⟩;have ha:=W_gr a h.1.2 hf.1 (lvl op.toNat) (by omega);have hb:=W_gr b h.2 hf.2 (lvl op.toNat+1) (by omega);rw [Int.max_eq_left (by omega)] at ha hb
  have ho:((op.toNat:Nat):Int)=op:=by omega
  rw [X.W];refine Gr.parW ?_;have:=Gr.bin (n:=lvl op.toNat) (op:=op.toNat) (by omega) (by omega) (Int.le_refl _) ha hb;rw [ho] at this;refine this.mono ?_
  by_cases q:lvl op.toNat<k
  ·rw [decide_eq_true q];exact l1
  ·rw [decide_eq_false q];simp only [Bool.false_eq_true,if_false];omega
 | .ite a b c,h,hf,k,hk=>by
  simp only [X.ok,Bool.and_eq_true] at h;exact .ite (W_gr a h.1.1 hf.1 0 (by decide)) (W_gr b h.1.2 hf.2.1 0 (by decide)) (W_gr c h.2 hf.2.2 0 (by decide))
def Zha:List (List UInt8)→List UInt8
 | []=>[]
 | [w]=>w
 | w::r=>w++32::Zha r
theorem Z4o:∀ ws:List (List UInt8),Spc (Zha ws) ws
 | [] => .nil 0
 | [w]=>by
  have:=Spc.cons 0 (w:=w) (Spc.nil 0) (.inl rfl);simpa [Zha] using this
 | w::v::r=>by
  have:=Spc.cons 0 (w:=w) ((Z4o (v::r)).pad 1) ((Z4o (v::r)).stp (by decide));simpa [Zha] using this
theorem Zwf:∀ (x:X),x.ok=true→x.fit→∀ k:Int,∀ w∈x.W k,isP w≠0
 | .leaf op num name,h,hf,k=>by
  intro w hw;simp only [X.W,List.mem_singleton] at hw;subst hw
  rcases Zrd h with ⟨rfl,h1,rfl⟩ | ⟨rfl,rfl,h1⟩ | ⟨rfl,rfl,rfl⟩ | ⟨rfl,rfl,rfl⟩
  ·obtain ⟨p1,p2,p3,p4⟩:=Zyl h1 hf
   rw [if_pos rfl,Zgr p1 p2 (by omega)];decide
  ·rw [if_neg (by decide),if_pos rfl,h1];decide
  ·decide +kernel
  ·decide +kernel
 | .un op a,h,hf,k=>by
  simp only [X.ok,Bool.and_eq_true,decide_eq_true_eq] at h;have ih:=Zwf a h.2 hf 9
  have ho:isP (sgT op.toNat)≠0:=by
   have:op=5∨op=6:=by omega
   rcases this with rfl | rfl<;>decide +kernel
  intro w hw;rw [X.W] at hw;unfold parW at hw
  split at hw
  ·simp only [List.mem_cons,List.mem_append,List.not_mem_nil,or_false] at hw
   rcases hw with rfl | (rfl | hw) | rfl
   ·decide +kernel
   ·exact ho
   ·exact ih w hw
   ·decide +kernel
  ·simp only [List.mem_cons] at hw
   rcases hw with rfl | hw
   ·exact ho
   ·exact ih w hw
 | .bin op a b,h,hf,k=>by
  simp only [X.ok,Bool.and_eq_true,decide_eq_true_eq] at h;have ih1:=Zwf a h.1.2 hf.1 (lvl op.toNat);have ih2:=Zwf b h.2 hf.2 (lvl op.toNat+1);have ho:=(Zvba ⟨h.1.1.1,h.1.1.2⟩).2.2.2;intro w hw;rw [X.W] at hw;unfold parW at hw
  split at hw
  ·simp only [List.mem_cons,List.mem_append,List.not_mem_nil,or_false] at hw
   rcases hw with rfl | (hw | rfl | hw) | rfl
   ·decide +kernel
   ·exact ih1 w hw
   ·exact ho
   ·exact ih2 w hw
   ·decide +kernel
  ·simp only [List.mem_cons,List.mem_append] at hw
   rcases hw with hw | rfl | hw
   ·exact ih1 w hw
   ·exact ho
   ·exact ih2 w hw
 | .ite a b c,h,hf,k=>by
  simp only [X.ok,Bool.and_eq_true] at h;have ih1:=Zwf a h.1.1 hf.1 0;have ih2:=Zwf b h.1.2 hf.2.1 0;have ih3:=Zwf c h.2 hf.2.2 0;intro w hw;simp only [X.W,List.mem_cons,List.mem_append,List.not_mem_nil,or_false] at hw
  rcases hw with rfl | hw | rfl | hw | rfl | hw | rfl
  ·decide +kernel
  ·exact ih1 w hw
  ·decide +kernel
  ·exact ih2 w hw
  ·decide +kernel
  ·exact ih3 w hw
  ·decide +kernel
theorem Zks:∀ (x y:X) (k:Int),x.ok=true→y.ok=true→x.row k=y.row k→x=y:=by
 have last:∀ {a b:List XN} {m n:XN},a++[m]=b++[n]→a=b∧m=n:=by
  intro a b m n h;obtain ⟨q1,q2⟩:=List.append_inj' h rfl;exact ⟨q1,by simpa using q2⟩
 have body:∀ (x:X) (k:Int),∃ b,x.row k=b++[x.top k]:=fun x k=>by obtain ⟨b,h,_⟩:=x.row_top k;exact ⟨b,h⟩
 have opr:∀ (x:X) (k:Int),x.ok=true→match x with
   | .leaf op _ _=>1≤op∧op≤4
   | .un op _=>5≤op∧op≤6
   | .bin op _ _=>7≤op∧op≤21
   | .ite .. => True:=by
  intro x k h
  cases x with
  | leaf op num name=>rcases Zrd h with ⟨h,_⟩ | ⟨h,_⟩ | ⟨h,_⟩ | ⟨h,_⟩<;>(show 1≤op∧op≤4;omega)
  | un op a=>simp only [X.ok,Bool.and_eq_true,decide_eq_true_eq] at h;exact h.1
  | bin op a b=>simp only [X.ok,Bool.and_eq_true,decide_eq_true_eq] at h;exact h.1.1
  | ite=>trivial
 intro x
 induction x with
 | leaf op num name =>
  intro y k hx hy h;have o1:=opr _ k hx;have o2:=opr y k hy;obtain ⟨b,hb⟩:=body y k;rw [hb] at h;obtain ⟨_,ht⟩:=last (a:=[]) h
  cases y with
  | leaf op' num' name'=>simp only [X.top,XN.mk.injEq] at ht;obtain ⟨rfl,rfl,rfl,_⟩:=ht;rfl
  | un op' a'=>simp only [X.top,XN.mk.injEq] at ht o1 o2;omega
  | bin op' a' b'=>simp only [X.top,XN.mk.injEq] at ht o1 o2;omega
  | ite a' b' c'=>simp only [X.top,XN.mk.injEq] at ht o1 o2;omega
 | un op a iha =>
  intro y k hx hy h;have o1:=opr _ k hx;have o2:=opr y k hy
  cases y with
  | leaf op' num' name' =>
   have ht:=(last (b:=[]) h).2;simp only [XN.mk.injEq] at ht o1 o2;omega
  | un op' a' =>
   obtain ⟨hr,ht⟩:=last h;simp only [XN.mk.injEq] at ht;simp only [X.ok,Bool.and_eq_true] at hx hy;rw [iha a' k hx.2 hy.2 hr,ht.1]
  | bin op' a' b' =>
   have ht:=(last h).2;simp only [XN.mk.injEq] at ht o1 o2;omega
  | ite a' b' c' =>
   have ht:=(last h).2;simp only [XN.mk.injEq] at ht o1 o2;omega
 | bin op a b iha ihb =>
  intro y k hx hy h;have o1:=opr _ k hx;have o2:=opr y k hy
  cases y with
  | leaf op' num' name' =>
   have ht:=(last (b:=[]) h).2;simp only [XN.mk.injEq] at ht o1 o2;omega
  | un op' a' =>
   have ht:=(last h).2;simp only [XN.mk.injEq] at ht o1 o2;omega
  | bin op' a' b' =>
   obtain ⟨hr,ht⟩:=last h;simp only [XN.mk.injEq] at ht;simp only [X.ok,Bool.and_eq_true] at hx hy
   have hs:a.size=a'.size:=by omega
   obtain ⟨q1,q2⟩:=List.append_inj hr (by rw [X.row_len,X.row_len];exact hs);rw [← hs] at q2;rw [iha a' k hx.1.2 hy.1.2 q1,ihb b' _ hx.2 hy.2 q2,ht.1]
  | ite a' b' c' =>
   have ht:=(last h).2;simp only [XN.mk.injEq] at ht o1 o2;omega
 | ite a b c iha ihb ihc =>
  intro y k hx hy h;have o2:=opr y k hy
  cases y with
  | leaf op' num' name' =>
   have ht:=(last (b:=[]) h).2;simp only [XN.mk.injEq] at ht o2;omega
  | un op' a' =>
   have ht:=(last h).2;simp only [XN.mk.injEq] at ht o2;omega
  | bin op' a' b' =>
   have ht:=(last h).2;simp only [XN.mk.injEq] at ht o2;omega
  | ite a' b' c' =>
   obtain ⟨hr,ht⟩:=last h;simp only [XN.mk.injEq] at ht;simp only [X.ok,Bool.and_eq_true] at hx hy
   have hs:a.size=a'.size:=by omega
   have hs2:b.size=b'.size:=by omega
   obtain ⟨q1,q2⟩:=List.append_inj hr (by rw [List.length_append,List.length_append,X.row_len,X.row_len,X.row_len,X.row_len];omega);obtain ⟨q3,q4⟩:=List.append_inj q1 (by rw [X.row_len,X.row_len];exact hs);rw [← hs] at q4 q2;rw [← hs2] at q2;rw [iha a' k hx.1.1 hy.1.1 q3,ihb b' _ hx.1.2 hy.1.2 q4,ihc c' _ hx.2 hy.2 q2]
end Go.Hs
end

section
namespace Go.Hs
open Go.Proofs
set_option maxRecDepth 10000
theorem Fz.rowL {F:Nat→Bool} {H:Heap} {o g fz n:Nat} {c:Col} {cs ls:List V} (hF:F o=true) (hH:H o = .cells c g fz cs) (hn:cs.length=n) (hfl:flat ls=ls) (h1:∀ v∈ls,v.cells.length=1) (h:FzL F H cs ls):Fz F H (.msl o g 0 n 1) (.slice c false 1 ls):=by
 obtain ⟨hl,hr⟩:=h.get;refine Cv.msl (col:=id) o g 0 n 1 c fz cs ls hF hH (by omega) h1 (by omega) fun i k1 k2=>?_
 have e:(flat ls)[i]=ls[i]'(by rw [hfl] at k2;exact k2):=by simp only [hfl]
 rw [e];have:=hr i (by omega) (by rw [hfl] at k2;exact k2);simp only [Nat.zero_add];exact this
theorem Zm7 (c:Col) (l:List (Sl (List UInt8))):flat (l.map fun t=>Zd c 1 V.str t)=l.map fun t=>Zd c 1 V.str t:=by
 induction l with
 | nil=>rfl
 | cons x r ih=>unfold flat at ih ⊢;rw [List.map_cons,List.flatMap_cons,ih,Z07]<;>rfl
theorem Z7y (g:Col→Col) (c c1:Col) (s:Sl (Sl (List UInt8))):(Z5s c c1 s).recol g=Z5s (g c) (g c1) s :=
 Z1b g c 1 (fun t=>Z1b g c1 1 (fun _=>rfl) t) s
theorem Zo5 (op:Nat) (h:op<23):Zrj true 3 tabC (op * 3)=some (Z2j (tabL.getD op ⟨[],0,0⟩)):=by
 have hl:tabC.length=69:=Zin;have e0:=Znk op h 0 (by decide);have e1:=Znk op h 1 (by decide);have e2:=Znk op h 2 (by decide)
 have:(tabC.drop (op * 3)).take 3=(Z2j (tabL.getD op ⟨[],0,0⟩)).cells:=by
  refine List.ext_getElem? fun i=>?_;rw [List.getElem?_take]
  by_cases hi:i<3
  ·rw [if_pos hi,List.getElem?_drop]
   match i,hi with
   | 0,_=>exact e0
   | 1,_=>exact e1
   | 2,_=>exact e2
  ·rw [if_neg hi]
   exact (List.getElem?_eq_none (by rw [Zap];omega)).symm
 unfold Zrj;rw [this];simp [hl,Z8h,V.cells];omega
theorem Zn5 (op:Nat) (h:op<23) (h0:1≤op):(tabL.getD op ⟨[],0,0⟩).parts=(Zi op:Nat)∧(tabL.getD op ⟨[],0,0⟩).level=lvl op∧(tabL.getD op ⟨[],0,0⟩).text=sgT op:=by
 have:((List.range 23).all fun op=>decide (op=0∨(tabL.getD op ⟨[],0,0⟩).parts=(Zi op:Nat)))=true:=by decide +kernel
 have:=List.all_eq_true.1 this op (List.mem_range.2 h);simp only [decide_eq_true_eq] at this;exact ⟨this.resolve_left (by omega),rfl,rfl⟩
def X.body:X→List (List UInt8)
 | .leaf op num name=>[if op=1 then Zoy num else if op=2 then name else sgT op.toNat]
 | .un op a=>sgT op.toNat::a.W 9
 | .bin op a b=>a.W (lvl op.toNat)++sgT op.toNat::b.W (lvl op.toNat+1)
 | .ite a b c=>wIf::(a.W 0++wThen::(b.W 0++wElse::(c.W 0++[wEndif])))
theorem Zbaa {op:Int} (h:op=1∨op=2∨op=3∨op=4):lvl op.toNat=10:=by
 rcases h with rfl | rfl | rfl | rfl<;>rfl
theorem Zv2 {x:X} (h:x.ok=true) {k:Int} (hk:k≤9) (b:Int):x.W k=parW (decide (lvl (x.top b).op.toNat<k)) x.body:=by
 cases x with
 | leaf op num name =>
  have:op=1∨op=2∨op=3∨op=4:=by rcases Zrd h with ⟨h,_⟩ | ⟨h,_⟩ | ⟨h,_⟩ | ⟨h,_⟩<;>omega
  have hl:=Zbaa this
  rw [decide_eq_false (by show ¬ lvl op.toNat<k;omega)]<;>rfl
 | un op a =>
  simp only [X.ok,Bool.and_eq_true,decide_eq_true_eq] at h
  have:lvl op.toNat=9:=by
   have:op=5∨op=6:=by omega
   rcases this with rfl | rfl<;>rfl
  show parW (decide (9<k)) _=parW (decide (lvl op.toNat<k)) _
  rw [this]<;>rfl
 | bin op a b=>rfl
 | ite a b c =>
  have:lvl 22=10:=rfl
  rw [decide_eq_false (by show ¬ lvl (22:Int).toNat<k;show ¬ lvl 22<k;omega)]<;>rfl
theorem Zgba {x:X} (h:x.ok=true) (b:Int):1≤(x.top b).op∧(x.top b).op≤22:=by
 cases x with
 | leaf op num name=>rcases Zrd h with ⟨h,_⟩ | ⟨h,_⟩ | ⟨h,_⟩ | ⟨h,_⟩<;>(show 1≤op∧op≤22;omega)
 | un op a=>simp only [X.ok,Bool.and_eq_true,decide_eq_true_eq] at h;show 1≤op∧op≤22;omega
 | bin op a b=>simp only [X.ok,Bool.and_eq_true,decide_eq_true_eq] at h;show 1≤op∧op≤22;omega
 | ite=>show (1:Int)≤22∧(22:Int)≤22;omega
end Go.Hs
end

section
namespace Go.Hs
open PutLaw
def ErrS (x:Bool × RS):Prop:=x.1=false→x.2.e≠0
theorem Z7c {x:Bool × RS} {k:RS→Bool × RS} (h1:ErrS x) (h2:x.1=true→ErrS (k x.2)):ErrS (andThen x k):=by
 obtain ⟨b,r⟩:=x;cases b
 ·exact h1
 ·exact h2 rfl
theorem ErrS.ok {x:RS}:ErrS (true,x):=fun h=>by cases h
theorem Zcp (l:List Tk) (w:List UInt8) (r:RS):ErrS (Z5e l w r):=by
 unfold Z5e
 split
 ·intro _;show (80:Int)≠0;decide
 ·exact .ok
theorem Zcx {l:List Tk}:∀ (f:Nat) (n:Int) (r:RS),l.length<f+r.i→r.i≤l.length→ErrS (Zm l f n r)
 | 0,n,r,h,h2=>by omega
 | f+1,n,r,h,h2=>by
  have hin:∀ n (r':RS),r.i<r'.i→r'.i≤l.length→ErrS (Zm l f n r'):=fun n r' a b=>Zcx f n r' (by omega) b;have hbs:=Zjc l f;rw [Zm];refine Z7c ?_ fun _=>?_
  ·have hkl:(Z3 l r.i).kind≠0→r.i+1≤l.length:=fun q=>Z5f q
   unfold Zya
   split
   ·unfold Z4c
    split
    ·rename_i q;intro _;exact q
    ·exact .ok
   split
   ·exact .ok
   split
   ·intro _;show (80:Int)≠0;decide
   rename_i k0;have hlt:=hkl k0
   split
   ·exact Z7c (hin 9 r.adv (Nat.lt_succ_self _) hlt) fun _ => .ok
   split
   ·exact Z7c (hin 1 r.adv (Nat.lt_succ_self _) hlt) fun _=>Zcp _ _ _
   split
   ·unfold Z6a
    have b0:=Zgd l wIf r;refine Z7c (Zcp _ _ _) fun q1=>?_;have m1:=b0.2 q1
    have u1:r.i+1≤(Z5e l wIf r).2.i:=by
     unfold Z5e at q1 ⊢
     split at q1
     ·cases q1
     ·rename_i qq;rw [if_neg qq];exact Nat.le_refl _
    have i1:=m1.inn h2;generalize (Z5e l wIf r).2=r1 at u1 i1 ⊢;have b1:=hbs 1 r1;refine Z7c (hin 1 r1 u1 i1) fun _=>?_;have u2:=b1.up;have i2:=b1.inn i1;generalize (Zm l f 1 r1).2=a at u2 i2 ⊢;have b2:=(Zgd l wThen a).1;refine Z7c (Zcp _ _ _) fun _=>?_;have u3:=b2.up;have i3:=b2.inn i2;generalize (Z5e l wThen a).2=r2 at u3 i3 ⊢;have b3:=hbs 1 r2;refine Z7c (hin 1 r2 (by omega) i3) fun _=>?_;have u4:=b3.up;have i4:=b3.inn i3;generalize (Zm l f 1 r2).2=b at u4 i4 ⊢;have b4:=(Zgd l wElse b).1;refine Z7c (Zcp _ _ _) fun _=>?_;have u5:=b4.up;have i5:=b4.inn i4;generalize (Z5e l wElse b).2=r3 at u5 i5 ⊢;refine Z7c (hin 1 r3 (by omega) i5) fun _=>?_;exact Z7c (Zcp _ _ _) fun _ => .ok
   split
   ·exact .ok
   ·intro _;show (80:Int)≠0;decide
  ·have hb:=Zvg hbs r
   have u0:=hb.up;have i0:=hb.inn h2;generalize (Zya l (Zm l f) r).2=q at u0 i0 ⊢
   have key:∀ (m:Nat) (q:RS),r.i≤q.i→q.i≤l.length→ErrS (Z2b l (Zm l f) n m q):=by
    intro m
    induction m with
    | zero=>intro q _ _;exact .ok
    | succ m ih =>
     intro q hq hl;rw [Z2b]
     split
     ·exact .ok
     ·rename_i op ho
      split
      ·exact .ok
      ·have hb:=hbs (lvl op+1) q.adv
       have hlt:=Z9f ho;refine Z7c (hin _ q.adv (by show r.i<q.i+1;omega) hlt) fun _=>?_;refine ih _ ?_ ?_
       ·have:=hb.up
        show r.i≤_
        have h3:q.i+1≤_:=this;simp only [Zxe];omega
       ·simp only [Zxe];exact hb.inn hlt
   exact key _ q u0 i0
theorem Z1h:∀ ws:List (List UInt8),(Zha ws).length≤(ws.map fun w=>w.length+1).sum
 | []=>by simp [Zha]
 | [w]=>by simp [Zha]
 | w::v::r=>by
  have:=Z1h (v::r);simp only [Zha,List.length_append,List.length_cons,List.map_cons,List.sum_cons] at this ⊢;omega
def Z24 (ws:List (List UInt8)):Nat:=(ws.map fun w=>w.length+1).sum
theorem Z6r (a b:List (List UInt8)):Z24 (a++b)=Z24 a+Z24 b:=by simp [Z24]
theorem Zrh (w:List UInt8) (b:List (List UInt8)):Z24 (w::b)=w.length+1+Z24 b:=by simp [Z24]
theorem Z5r:Z24 []=0:=rfl
theorem Z40 (b:Bool) (ts:List (List UInt8)):Z24 (parW b ts)≤Z24 ts+4:=by
 cases b
 ·show Z24 ts≤_;omega
 ·simp only [parW,if_true,Zrh,Z6r,Z5r,List.length_cons,List.length_nil];omega
theorem Zk1:∀ op,op≤22→(sgT op).length≤7:=by
 have:((List.range 23).all fun op=>decide ((sgT op).length≤7))=true:=by decide +kernel
 intro op h;have:=List.all_eq_true.1 this op (List.mem_range.2 (by omega));simpa using this
theorem Zsx:∀ (x:X),x.ok=true→x.fit→∀ k:Int,Z24 (x.W k)≤66 * x.size
 | .leaf op num name,h,hf,k=>by
  simp only [X.W,Zrh,Z5r,X.size]
  rcases Zrd h with ⟨rfl,h1,rfl⟩ | ⟨rfl,rfl,h1⟩ | ⟨rfl,rfl,rfl⟩ | ⟨rfl,rfl,rfl⟩
  ·obtain ⟨p1,p2,p3,p4⟩:=Zyl h1 hf
   rw [if_pos rfl];omega
  ·have:=(Zyd (w:=name) (by omega)).2.2
   rw [if_neg (by decide),if_pos rfl];omega
  ·decide +kernel
  ·decide +kernel
 | .un op a,h,hf,k=>by
  simp only [X.ok,Bool.and_eq_true,decide_eq_true_eq] at h;have ih:=Zsx a h.2 hf 9;have:=Z40 (9<k) (sgT op.toNat::a.W 9);have hs:=Zk1 op.toNat (by omega);rw [Zrh] at this;simp only [X.W,X.size];omega
 | .bin op a b,h,hf,k=>by
  simp only [X.ok,Bool.and_eq_true,decide_eq_true_eq] at h;have ih1:=Zsx a h.1.2 hf.1 (lvl op.toNat);have ih2:=Zsx b h.2 hf.2 (lvl op.toNat+1);have:=Z40 (lvl op.toNat<k) (a.W (lvl op.toNat)++sgT op.toNat::b.W (lvl op.toNat+1));have hs:=Zk1 op.toNat (by omega);rw [Z6r,Zrh] at this;simp only [X.W,X.size];omega
 | .ite a b c,h,hf,k=>by
  simp only [X.ok,Bool.and_eq_true] at h;have ih1:=Zsx a h.1.1 hf.1 0;have ih2:=Zsx b h.1.2 hf.2.1 0;have ih3:=Zsx c h.2 hf.2.2 0;simp only [X.W,X.size,Zrh,Z6r,Z5r];have e1:wIf.length=2:=rfl;have e2:wThen.length=4:=rfl;have e3:wElse.length=4:=rfl;have e4:wEndif.length=5:=rfl;omega
theorem Zpo {x:X} (h:x.ok=true) (hf:x.fit):(Zha (x.W 0)).length≤66 * x.size:=Nat.le_trans (Z1h _) (Zsx x h hf 0)
theorem Gr.size {n:Int} {ts:List (List UInt8)} {x:X} (h:Gr n ts x):x.size≤ts.length:=by
 induction h<;>simp only [X.size,List.length_cons,List.length_append,List.length_nil]<;>omega
theorem Gr.fit {n:Int} {ts:List (List UInt8)} {x:X} (h:Gr n ts x):x.fit:=by
 induction h with
 | @num n t v h1 h2 =>
  show v≤9223372036854775807
  have hp:(Zrb (Z3c t)).1≤9223372036854775807:=by
   have ht:∀ z:Int,(Zdv z).1≤9223372036854775807:=by
    intro z;unfold Zdv
    split
    ·rename_i q
     simp only [Z1w,decide_eq_true_eq] at q;exact q.2
    ·show (0:Int)≤_;decide
   generalize Z3c t=u;unfold Zrb;generalize (u.head? == some 45)=bl;cases bl
   ·simp only [Bool.false_eq_true,if_false]
    split
    ·show (0:Int)≤_;decide
    ·exact ht _
   ·simp only [if_true]
    split
    ·show (0:Int)≤_;decide
    ·exact ht _
  rw [h2] at hp;exact hp
 | name=>show (0:Int)≤_;decide
 | tr=>show (0:Int)≤_;decide
 | fa=>show (0:Int)≤_;decide
 | neg _ _ ih=>exact ih
 | not _ _ ih=>exact ih
 | par _ ih=>exact ih
 | bin _ _ _ _ _ i1 i2=>exact ⟨i1,i2⟩
 | ite _ _ _ i1 i2 i3=>exact ⟨i1,i2,i3⟩
theorem Ztl {s:List UInt8} {l:List Tk} (h:Zbb s=(l,0,0)):l.length≤s.length:=by
 have key:∀ {s:List UInt8} {ws:List (List UInt8)},Lx s ws→ws.length≤s.length:=by
  intro s ws h
  induction h with
  | nil=>exact Nat.zero_le _
  | @cons s ws k hb hk h0 h64 _ ih =>
   have hle:=Zqg (s.drop (blk s));rw [hk,List.length_drop] at hle;rw [List.length_drop,List.length_drop] at ih;simp only [List.length_cons];omega
 have:=key (Zas h);rwa [List.length_map] at this
end Go.Hs
end

section
namespace Go.Hs
open Go.Proofs
set_option maxRecDepth 10000
theorem Z27 (ls:List (List (List UInt8))):Zfm (ls.map fun l=>Sl.mk false l)=ls.flatten:=by
 induction ls with
 | nil=>rfl
 | cons a r ih=>rw [List.map_cons,Zfm,List.flatMap_cons,List.flatten_cons];exact congrArg _ ih
theorem Zll:∀ (x:X) (k:Int),(x.W k).length≤6 * x.size
 | .leaf ..,k=>by simp [X.W,X.size]
 | .un op a,k=>by
  have:=Zll a 9
  have hp:∀ b (ts:List (List UInt8)),(parW b ts).length≤ts.length+2:=fun b ts=>by cases b<;>simp [parW]
  have:=hp (9<k) (sgT op.toNat::a.W 9);simp only [X.W,X.size,List.length_cons] at this ⊢;omega
 | .bin op a b,k=>by
  have:=Zll a (lvl op.toNat);have:=Zll b (lvl op.toNat+1)
  have hp:∀ b (ts:List (List UInt8)),(parW b ts).length≤ts.length+2:=fun b ts=>by cases b<;>simp [parW]
  have:=hp (lvl op.toNat<k) (a.W (lvl op.toNat)++sgT op.toNat::b.W (lvl op.toNat+1));simp only [X.W,X.size,List.length_cons,List.length_append] at this ⊢;omega
 | .ite a b c,k=>by
  have:=Zll a 0;have:=Zll b 0;have:=Zll c 0;simp only [X.W,X.size,List.length_cons,List.length_append,List.length_nil];omega
theorem Zvn {G:Nat→V} (hG:GOk G) (F:Nat→Bool) {H:Heap} {K:V→Heap→Prop} {v:V} (ls:List (List (List UInt8))) (hn:ls.length<1000) (hl:ls.flatten.length<1000000) (hne:ls.flatten.length≠0)
  (h:Fz F H v (Z5s .new .new (.mk false (ls.map fun l=>Sl.mk false l)))) (hk:K (Zd .new 1 V.str (.mk false ls.flatten)) Zl):CallA Tryz.prog G 161 [v] H K:=by
 refine Z1c F [Z5s .new .new (.mk false (ls.map fun l=>Sl.mk false l))] [] ⟨h,trivial⟩ trivial ?_;refine CallA.pure hG (by kernel_rfl) ?_;rw [List.map_cons,List.map_nil,Z7y];refine (Z3v G hG _ _ (.mk false (ls.map fun l=>Sl.mk false l)) (by simp [Sl.l];omega) (by rw [show (Sl.mk false (ls.map fun l=>Sl.mk false l)).l=ls.map fun l=>Sl.mk false l from rfl,Z27];exact hl) (by rw [show (Sl.mk false (ls.map fun l=>Sl.mk false l)).l=ls.map fun l=>Sl.mk false l from rfl,Z27];exact hne)).mono ?_;rintro _ _ rfl;rw [show (Sl.mk false (ls.map fun l=>Sl.mk false l)).l=ls.map fun l=>Sl.mk false l from rfl,Z27];have:(Zd .new 1 V.str (.mk false ls.flatten)).recol Col.bk=Zd .new 1 V.str (.mk false ls.flatten):=Z1b _ _ _ (fun _=>rfl) _;rw [this];exact hk
theorem Zwn {F:Nat→Bool} {H:Heap} {o g n:Nat} {cs:List V} (ls:List (List (List UInt8))) (hF:F o=true) (hH:H o = .cells .new g 0 cs) (hn:cs.length=n) (h:FzL F H cs (ls.map fun l=>Zd .new 1 V.str (.mk false l))) :
  Fz F H (.msl o g 0 n 1) (Z5s .new .new (.mk false (ls.map fun l=>Sl.mk false l))):=by
 have e:Z5s .new .new (.mk false (ls.map fun l=>Sl.mk false l)) = .slice .new false 1 (ls.map fun l=>Zd .new 1 V.str (.mk false l)):=by
  simp only [Z5s,Zd,List.map_map];rfl
 rw [e]
 have e2:(ls.map fun l=>Zd .new 1 V.str (.mk false l))=(ls.map fun l=>Sl.mk false l).map fun t=>Zd .new 1 V.str t:=by rw [List.map_map]<;>rfl
 refine Fz.rowL hF hH hn (by rw [e2];exact Zm7 .new _) ?_ h;intro v hv;obtain ⟨l,_,rfl⟩:=List.mem_map.1 hv;rfl
theorem Fz.one {F:Nat→Bool} {H:Heap} {o g:Nat} {w:List UInt8} (hF:F o=true) (hH:H o = .cells .new g 0 [.str w]):Fz F H (.msl o g 0 1 1) (Zd .new 1 V.str (.mk false [w])) :=
 Fz.sl (f:=V.str) (l:=[w]) (m:=1) (g:=g) (fz:=0) (c := .new) hF hH (fun _=>rfl)
theorem Zpy (G:Nat→V) (hE:GExp G) (s:Sl XN) (hs:s.l.length<1000):∀ (m:Nat) (y:X) (b:Nat) (c:Col) (k:Int),y.size≤m→At s.l y b→y.ok=true→y.fit→0≤k→k≤9 →
  Spec Tryz.prog G 94 [.agg [Zd c 6 Zca s],.int .i64 ((b:Int)+y.size-1),.int .i64 k] Zl (fun v _=>v=Zd .new 1 V.str (.mk false (y.W k))):=by
 have hG:=hE.ok;intro m
 induction m with
 | zero=>intro y b c k hm;have:=y.size_pos;omega
 | succ m ih =>
 intro y b c k hm hat hy hf hk0 hk9;refine Zo 0 106 [.tmp 6] Tryz.func94 fun X0=>?_;have hyp:=y.size_pos;have hget:=hat.get
 have hsz:b+y.size≤s.l.length:=by
  obtain ⟨pre,post,e1,e2⟩:=hat;have:=congrArg List.length e1;simp only [List.length_append,X.row_len] at this;omega
 have hW:=Zv2 hy hk9 (b:Int);have hop:=Zgba hy (b:Int)
 have hbp:0<y.body.length:=by cases y<;>(simp [X.body];try omega)
 have hbl:y.body.length≤6 * y.size:=by
  have:=Zll y 0;rw [Zv2 hy (by decide) (b:Int)] at this
  cases hq:decide (lvl (y.top b).op.toNat<0)<;>rw [hq] at this<;>simp [parW] at this<;>omega
 have hpos:((b:Int)+y.size-1)=((b+y.size-1:Nat):Int):=by omega
 have hlt:b+y.size-1<s.l.length:=by omega
 rw [hpos];generalize hn:y.top b=n at hget hW hop;generalize y.W k=res at hW ⊢;refine Z1 ?_;intro g3;refine Z1f (zi hget (zi hlt @Zt)) ?_;intro g7;refine AW.weak (Z2 (fun o=>o==3 || o==7) (l:=[(2,.int .i64 k),(3,.view .new (.agg [Zd c 6 Zca s])),(7,.view .new (Zca n))]) (m:=[]) ?_ trivial) ?_
 ·refine Zs ?_
  exact ⟨Ze _,Fz.ptr (v := .agg [Zd c 6 Zca s]) (c := .new) (fz:=0) rfl zp,Fz.ptr (v:=Zca n) (c := .new) (fz:=0) rfl zp⟩
 obtain ⟨on,hon⟩:∃ on:Nat,n.op=on:=⟨n.op.toNat,by omega⟩;have hpt:=Zo5 on (by omega);obtain ⟨t1,t2,t3⟩:=Zn5 on (by omega) (by omega)
 have hoi:n.op<23:=by omega
 have hoj:0≤n.op:=by omega
 have hot:n.op.toNat=on:=by omega
 have pT:Zni Tryz.prog G 159 [] (.agg tabC):=⟨by kernel_rfl,by
  simp -implicitDefEqProofs only[go_sem,seval,↓reduceIte,List.map_nil];refine (Zxg G hG).mono ?_;rintro _ _ rfl
  exact Zds _⟩
 generalize tabL.getD on ⟨[],0,0⟩=sg at hpt t1 t2 t3;obtain ⟨tx,lv,pa⟩:=sg;simp only at t1 t2 t3;subst t1 t2 t3;rw [Z8h] at hpt;simp only at hpt
 refine Zy <| Z5 ⟨fun _ => .agg tabC,fun i=>if i=0 then .pure else .lend⟩ (by kernel_rfl) hG (by kernel_rfl) (by kernel_rfl) ?_
 refine Zsf (zi @Zt (zi hoi (zi hoj (zi hot hpt)))) ?_;refine ⟨pT,?_⟩;intro g8;refine AW.weak (Z2 (fun o=>o==8) (l:=[(2,.int .i64 k),(3,.view .new (.agg [Zd c 6 Zca s])),(7,.view .new (Zca n)),(8,.view .new (.agg [.str (sgT on),.int .i64 (lvl on),.int .i64 (Zi on:Nat)]))]) (m:=[]) ?_ trivial) ?_
 ·refine Zs ?_
  exact ⟨Ze _,Ze _,Ze _,Fz.ptr (v := .agg [.str (sgT on),.int .i64 (lvl on),.int .i64 (Zi on:Nat)]) (c := .new) (fz:=0) rfl zp⟩
 refine Z1 ?_
 have pw:∀ (z:X) (bz:Nat) (lv:Int),z.size≤m→At s.l z bz→z.ok=true→z.fit→0≤lv→lv≤9→Zni Tryz.prog G 94 [.agg [Zd c 6 Zca s],.int .i64 ((bz:Int)+z.size-1),.int .i64 lv] (Zd .new 1 V.str (.mk false (z.W lv))):=by
  intro z bz lv h1 h2 h3 h4 h5 h6;refine ⟨by kernel_rfl,?_⟩;refine Zsf @Z4 ?_;refine (ih z bz _ lv h1 h2 h3 h4 h5 h6).mono ?_;rintro _ _ rfl;exact Z1b _ _ _ (fun _=>rfl) _
 refine Z9 (fun (_:Unit)=>st [(2,.int .i64 k),(8,.view .new (.agg [.str (sgT on),.int .i64 (lvl on),.int .i64 (Zi on:Nat)])),(9,Zd .new 1 V.str (.mk false y.body))] []) (fun _=>True) (fun K1 hK1=>?_) ?_;rotate_left
 ·intro _ _
  refine Zy ?_;rw [hot] at hW
  by_cases hlk:lvl on<k
  ·have e1:decide (lvl on<k)=true:=by simpa using hlk
   rw [decide_eq_true hlk] at hW;refine Z1f e1 ?_;refine Z1 ?_;intro g100 g102 g103;refine Zvn hG (fun o=>o==100 || o==102 || o==103) [[[40]],y.body,[[41]]] (by simp) (by simp;omega) (by simp) (Zwn (cs:=[.msl 100 g100 0 1 1,Zd .new 1 V.str (.mk false y.body),.msl 102 g102 0 1 1]) [[[40]],y.body,[[41]]] rfl zp rfl ⟨Fz.one rfl zp,Ze _,Fz.one rfl zp,trivial⟩) ?_;refine Zs ?_;refine Z ?_;rw [hW];simp [parW]
  ·have e1:decide (lvl on<k)=false:=by simpa using hlk
   rw [decide_eq_false hlk] at hW;refine Zf e1 ?_
   rw [hW]<;>rfl
 refine AW.block ?_
 cases y with
 | leaf op num name =>
  obtain rfl:n=⟨op,num,name,-1,-1,-1⟩:=hn.symm
  rcases Zrd hy with ⟨rfl,h1,rfl⟩ | ⟨rfl,rfl,h1⟩ | ⟨rfl,rfl,rfl⟩ | ⟨rfl,rfl,rfl⟩
  ·have hf:num≤9223372036854775807:=hf
   refine Z1f @Zt ?_;refine Z1f @Zt ?_;refine Zc hG ?_ (s:=(Zr6 G hE.toGNum num ⟨by show -9223372036854775808≤num;omega,hf⟩));intro g29;exact hK1 _ () trivial (Z2 (fun o=>o==29) (by simp -implicitDefEqProofs only[go_sem,seval,↓reduceIte];exact ⟨Ze _,Ze _,Fz.one rfl zp⟩) trivial)
  ·refine Z1f @Zt ?_
   refine Zta rfl ?_
   try clear h22
   refine Z1f @Zt ?_;refine Z1f @Zt ?_;intro g36;exact hK1 _ () trivial (Z2 (fun o=>o==36) (by simp -implicitDefEqProofs only[go_sem,seval,↓reduceIte];exact ⟨Ze _,Ze _,Fz.one rfl zp⟩) trivial)
  ·obtain rfl:on=3:=by have:(3:Int)=on:=hon;omega
   have e2:((((Zi ((3:Nat):Int):Nat):Int))==2)=false:=rfl;have e3:((((Zi ((3:Nat):Int):Nat):Int))==1)=false:=rfl;refine Z1f @Zt ?_;refine Zta rfl ?_
   try clear h22
   refine Z1f @Zt ?_;refine Zta rfl ?_
   try clear h22
   refine Z1f @Zt ?_;refine Zta rfl ?_
   try clear h22
   refine Z1f e2 ?_;refine Zta rfl ?_
   try clear h22
   refine Z1f e3 ?_;refine Zta rfl ?_
   try clear h22
   refine Z1 ?_;intro g21;exact hK1 _ () trivial (Z2 (fun o=>o==21) (by simp -implicitDefEqProofs only[go_sem,seval,↓reduceIte];exact ⟨Ze _,Ze _,Fz.one rfl zp⟩) trivial)
  ·obtain rfl:on=4:=by have:(4:Int)=on:=hon;omega
   have e2:((((Zi ((4:Nat):Int):Nat):Int))==2)=false:=rfl;have e3:((((Zi ((4:Nat):Int):Nat):Int))==1)=false:=rfl;refine Z1f @Zt ?_;refine Zta rfl ?_
   try clear h22
   refine Z1f @Zt ?_;refine Zta rfl ?_
   try clear h22
   refine Z1f @Zt ?_;refine Zta rfl ?_
   try clear h22
   refine Z1f e2 ?_;refine Zta rfl ?_
   try clear h22
   refine Z1f e3 ?_;refine Zta rfl ?_
   try clear h22
   refine Z1 ?_;intro g21;exact hK1 _ () trivial (Z2 (fun o=>o==21) (by simp -implicitDefEqProofs only[go_sem,seval,↓reduceIte];exact ⟨Ze _,Ze _,Fz.one rfl zp⟩) trivial)
 | un op a =>
  obtain rfl:n=⟨op,0,[],(b:Int)+a.size-1,-1,-1⟩:=hn.symm;simp only [X.ok,Bool.and_eq_true,decide_eq_true_eq] at hy;have hon:op=on:=hon
  have hpo:Zi on=1:=by unfold Zi;rw [if_neg (by omega),if_pos (by omega)]
  have q1:(op==1)=false:=by rw [beq_eq_false_iff_ne];omega
  have q2:(op==2)=false:=by rw [beq_eq_false_iff_ne];omega
  have q22:(op==22)=false:=by rw [beq_eq_false_iff_ne];omega
  have e2:(((Zi on:Nat):Int)==2)=false:=by rw [hpo]<;>rfl
  have e3:(((Zi on:Nat):Int)==1)=true:=by rw [hpo]<;>rfl
  have e9:lvl on=9:=by
   have:on=5∨on=6:=by omega
   rcases this with h | h<;>rw [h]<;>rfl
  have hwa:=pw a b (lvl on) (by simp only [X.size] at hm;omega) hat.un hy.2 hf (by omega) (by omega);have hcl:=Zll a (lvl on)
  have hfl:[[sgT on],a.W (lvl on)].flatten=(X.un op a).body:=by rw [e9,X.body,← hot];simp
  have hsz2:a.size<1000:=by simp only [X.size] at hsz;omega
  refine Z1f (zi @Zt q1) ?_;refine Zta rfl ?_
  try clear h22
  refine Z1f (zi @Zt q2) ?_;refine Zta rfl ?_
  try clear h22
  refine Z1f (zi @Zt q22) ?_;refine Zta rfl ?_
  try clear h22
  refine Z1f e2 ?_;refine Zta rfl ?_
  try clear h22
  refine Z1f e3 ?_;refine Zpe rfl ?_;refine Z5 ⟨fun _=>Zd .new 1 V.str (.mk false (a.W (lvl on))),fun i=>if i=8 then .pure else if i=10 then .any else .lend⟩ (by kernel_rfl) hG (by kernel_rfl) (by kernel_rfl) ?_;refine Zsf @Zt ?_;intro g87;refine ⟨hwa,fun g94=>?_⟩;refine Zvn hG (fun o=>o==87 || o==94) [[sgT on],a.W (lvl on)] (by simp) (by simp;omega) (by simp) (Zwn (cs:=[.msl 87 g87 0 1 1,Zd .new 1 V.str (.mk false (a.W (lvl on)))]) [[sgT on],a.W (lvl on)] rfl zp rfl ⟨Fz.one rfl zp,Ze _,trivial⟩) ?_;rw [hfl];refine Zs ?_;exact hK1 _ () trivial (Zb zp zp)
 | bin op a b' =>
  obtain rfl:n=⟨op,0,[],(b:Int)+a.size-1,(b:Int)+a.size+b'.size-1,-1⟩:=hn.symm;simp only [X.ok,Bool.and_eq_true,decide_eq_true_eq] at hy;have hon:op=on:=hon
  have hpo:Zi on=2:=by unfold Zi;rw [if_neg (by omega),if_neg (by omega),if_pos (by omega)]
  have q1:(op==1)=false:=by rw [beq_eq_false_iff_ne];omega
  have q2:(op==2)=false:=by rw [beq_eq_false_iff_ne];omega
  have q22:(op==22)=false:=by rw [beq_eq_false_iff_ne];omega
  have e2:(((Zi on:Nat):Int)==2)=true:=by rw [hpo]<;>rfl
  obtain ⟨l1,l2,_,_⟩:=Zvo on (by omega) (by omega);simp only [X.size] at hm hsz;have hwa:=pw a b (lvl on) (by omega) hat.bin.1 hy.1.2 hf.1 (by omega) (by omega);have hwb:=pw b' (b+a.size) (lvl on+1) (by omega) hat.bin.2 hy.2 hf.2 (by omega) (by omega);rw [Int.natCast_add] at hwb;have hw:IntKind.i64.wrap (lvl on+1)=lvl on+1:=w64 (by omega) (by omega);have hca:=Zll a (lvl on);have hcb:=Zll b' (lvl on+1)
  have hfl:[a.W (lvl on),[sgT on],b'.W (lvl on+1)].flatten=(X.bin op a b').body:=by rw [X.body,← hot];simp
  refine Z1f (zi @Zt q1) ?_;refine Zta rfl ?_
  try clear h22
  refine Z1f (zi @Zt q2) ?_;refine Zta rfl ?_
  try clear h22
  refine Z1f (zi @Zt q22) ?_;refine Zta rfl ?_
  try clear h22
  refine Z1f e2 ?_;refine Zpe rfl ?_;refine Z5 ⟨fun i=>if i=5 then Zd .new 1 V.str (.mk false (a.W (lvl on))) else Zd .new 1 V.str (.mk false (b'.W (lvl on+1))),fun i=>if i=5 then .pure else if i=15 then .pure else if i=17 then .any else .lend⟩ (by kernel_rfl) hG (by kernel_rfl) (by kernel_rfl) ?_;refine Zsf (zi @Zt hw) ?_;refine ⟨hwa,fun g71=>⟨hwb,fun g79=>?_⟩⟩;refine Zvn hG (fun o=>o==71 || o==79) [a.W (lvl on),[sgT on],b'.W (lvl on+1)] (by simp) (by simp;omega) (by simp) (Zwn (cs:=[Zd .new 1 V.str (.mk false (a.W (lvl on))),.msl 71 g71 0 1 1,Zd .new 1 V.str (.mk false (b'.W (lvl on+1)))]) [a.W (lvl on),[sgT on],b'.W (lvl on+1)] rfl zp rfl ⟨Ze _,Fz.one rfl zp,Ze _,trivial⟩) ?_;rw [hfl];refine Zs ?_;exact hK1 _ () trivial (Zb zp zp)
 | ite a b' c' =>
  obtain rfl:n=⟨22,0,[],(b:Int)+a.size-1,(b:Int)+a.size+b'.size-1,(b:Int)+a.size+b'.size+c'.size-1⟩:=hn.symm;simp only [X.ok,Bool.and_eq_true] at hy;simp only [X.size] at hm hsz;have hwa:=pw a b 0 (by omega) hat.ite.1 hy.1.1 hf.1 (by decide) (by decide);have hwb:=pw b' (b+a.size) 0 (by omega) hat.ite.2.1 hy.1.2 hf.2.1 (by decide) (by decide);have hwc:=pw c' (b+a.size+b'.size) 0 (by omega) hat.ite.2.2 hy.2 hf.2.2 (by decide) (by decide);rw [Int.natCast_add] at hwb;rw [Int.natCast_add,Int.natCast_add] at hwc;have hca:=Zll a 0;have hcb:=Zll b' 0;have hcc:=Zll c' 0
  have hfl:[[wIf],a.W 0,[wThen],b'.W 0,[wElse],c'.W 0,[wEndif]].flatten=(X.ite a b' c').body:=by rw [X.body];simp
  refine Z1f @Zt ?_;refine Zta rfl ?_
  try clear h22
  refine Z1f @Zt ?_;refine Zta rfl ?_
  try clear h22
  refine Z1f @Zt ?_;refine Zpe rfl ?_;refine Z5 ⟨fun i=>if i=4 then Zd .new 1 V.str (.mk false (a.W 0)) else if i=9 then Zd .new 1 V.str (.mk false (b'.W 0)) else Zd .new 1 V.str (.mk false (c'.W 0)),fun i=>if i=4 then .pure else if i=9 then .pure else if i=14 then .pure else if i=17 then .any else .lend⟩ (by kernel_rfl) hG (by kernel_rfl) (by kernel_rfl) ?_;refine Zsf @Zt ?_;intro g41;refine ⟨hwa,fun g46=>⟨hwb,fun g51=>⟨hwc,fun g56 g57=>?_⟩⟩⟩;refine Zvn hG (fun o=>o==41 || o==46 || o==51 || o==56 || o==57) [[wIf],a.W 0,[wThen],b'.W 0,[wElse],c'.W 0,[wEndif]] (by simp) (by simp;omega) (by simp) (Zwn (cs:=[.msl 41 g41 0 1 1,Zd .new 1 V.str (.mk false (a.W 0)),.msl 46 g46 0 1 1,Zd .new 1 V.str (.mk false (b'.W 0)),.msl 51 g51 0 1 1,Zd .new 1 V.str (.mk false (c'.W 0)),.msl 56 g56 0 1 1]) [[wIf],a.W 0,[wThen],b'.W 0,[wElse],c'.W 0,[wEndif]] rfl zp rfl ⟨Fz.one rfl zp,Ze _,Fz.one rfl zp,Ze _,Fz.one rfl zp,Ze _,Fz.one rfl zp,trivial⟩) ?_;rw [hfl];refine Zs ?_;exact hK1 _ () trivial (Zb zp zp)
end Go.Hs
end

section
namespace Go.Hs
open Go.Proofs
set_option maxRecDepth 10000
theorem nil_of {n:Int} (h:decide (n=0)=true):dg n.natAbs=[]:=by
 have:=of_decide_eq_true h;subst this;rfl
theorem len_of {n:Int} (hn:InK .i64 n):(dg n.natAbs).length<1000000:=by
 have:=(Zyj n).1 hn;have:=Zl2 (n:=n.natAbs) (k:=20) (by omega);omega
end Go.Hs
end

section
namespace Go.Hs
open Go.Proofs
set_option maxRecDepth 10000
def chars (l:List Nat):List UInt8:=(l.map fun d=>UInt8.ofNat (48+d)).reverse
theorem decDigits_dg (u:Nat) (h:0<u):Lib.decDigits u=chars (dg u):=by
 induction u using Nat.strongRecOn with
 | _ u ih =>
  rw [Lib.decDigits,Zai h]
  by_cases h1:u<10
  ·rw [dif_pos h1,show u / 10=0 by omega,Zdg,Nat.mod_eq_of_lt h1]
   try rfl
  ·rw [dif_neg h1,ih (u / 10) (by omega) (by omega)]
   simp [chars]
theorem putR_dg (n:Int):Zoy n=if n=0 then [48] else if n<0 then 45::chars (dg n.natAbs) else chars (dg n.natAbs):=by
 unfold Zoy Lib.itoa
 by_cases h0:n=0
 ·subst h0
  simp;rw [Lib.decDigits];simp
 ·rw [if_neg h0]
  by_cases h1:n<0
  ·rw [if_pos h1,if_pos h1,decDigits_dg _ (by omega)]
  ·rw [if_neg h1,if_neg h1,show n.toNat=n.natAbs by omega,decDigits_dg _ (by omega)]
theorem Zz7 {l:List Nat}:chars l=[] ↔ l=[]:=by simp [chars]
theorem Zdx (l:List Nat):(chars l).length=l.length:=by simp [chars]
theorem wu8 {n:Int} (h1:0≤n) (h2:n≤255):IntKind.u8.wrap n=n:=by
 unfold IntKind.wrap;simp [IntKind.signed,IntKind.bits];omega
theorem Z65 (G:Nat→V) (hG:GOk G) (n:Int) (hn:InK .i64 n):Spec Tryz.prog G 166 [.int .i64 n] Zl (fun v _=>v = .str (Zoy n)):=by
 have hn':=(Zyj n).1 hn;have hnl:=nil_of (n:=n);have hll:=len_of hn;have hdg:=Zpr n.natAbs
 have hn0:dg n.natAbs=[] ↔ n=0:=by rw [dg_ne];omega
 rw [putR_dg];refine Zo 0 33 [.tmp 2] Tryz.func166 fun X=>?_;refine Z1 ?_;refine Z1 ?_;refine Zn hG ?_ (s:=(Zv9 G hG n hn));refine Zsf @encLong.eq_1 ?_;intro g3;generalize decide (n=0)=nl at hnl;generalize hl:dg n.natAbs=l at hnl hll hdg hn0;have hsl:=slD_l hnl;refine Z1 ?_;refine Z1 ?_;refine AW.block ?_
 refine Zua l.length (fun k (_:Unit)=>st [(3,.ptr 3 g3 0),(4,.str (chars (l.take k))),(5,.int .i64 k)] [(3,.cells .new g3 0 [Zd .new 1 (V.int .i64) (slD nl l),.bool (decide (n<0))])]) (fun k _=>True) 0 () (Nat.zero_le _) trivial
  (Zb zp zp) ?_
 intro k _ hk _ L2 hL2;refine Z1f (zi hsl @Zbh) ?_;refine Za rfl (fun h4=>?_) (fun h4=>?_)
 ·have hk1:k<l.length:=by have:=of_decide_eq_true h4;omega
  refine Z0 ?_;have g2:=Z8k (l:=l) (k:=k) hk1;have h9:=Z2s hdg k
  have htk:l.take (k+1)=l.take k++[l.getD k 0]:=by rw [List.take_succ_eq_append_getElem hk1,List.getD_eq_getElem?_getD,List.getElem?_eq_getElem hk1]<;>rfl
  generalize l.getD k 0=d at g2 h9 htk
  have hch:chars (l.take (k+1))=UInt8.ofNat (48+d)::chars (l.take k):=by rw [htk];simp [chars]
  have hw1:IntKind.i64.wrap (48+(d:Int))=48+(d:Int):=w64 (by omega) (by omega);have hw2:IntKind.u8.wrap (48+(d:Int))=48+(d:Int):=wu8 (by omega) (by omega);have hb:UInt8.ofNat (48+(d:Int)).toNat=UInt8.ofNat (48+d):=congrArg _ (by omega)
  have hlen:¬ (((1+(chars (l.take k)).length:Nat):Int) > IntKind.i64.max):=by
   rw [show IntKind.i64.max=9223372036854775807 from rfl,Zdx,List.length_take];omega
  refine Zy ?_;refine AW.block ?_;refine Z14 8 23 (e:=5) (by kernel_rfl) rfl Tryz.underlying166 Tryz.underlying5 Tryz.underlying9 ?_;simp -implicitDefEqProofs only[go_sem,seval,↓reduceIte,List.take_succ_cons,List.take_zero,hsl,g2,hw1,hw2];intro g22;refine ⟨_,_,_,_,[48+(d:Int)],rfl,rfl,?_⟩;simp -implicitDefEqProofs only[go_sem,seval,↓reduceIte,List.drop_succ_cons,List.drop_zero,List.map_cons,List.map_nil,hb,hlen];refine Z1 ?_;refine hL2 _ ⟨hk1,(),trivial,Zb (by rw [hch];simp -implicitDefEqProofs only[go_sem,seval,↓reduceIte];exact congrArg _ (by rw [w64 (by omega) (by omega)];omega)) zp⟩
 ·have hk1:k=l.length:=by have:=of_decide_eq_false h4;omega
  subst hk1;refine Z0 ?_;rw [List.take_length]
  have hz:(chars l==[])=decide (n=0):=by
   by_cases h:n=0
   ·rw [hn0.2 h];simp [h,chars]
   ·have:¬ l=[]:=fun e=>h (hn0.1 e)
    simp [h,Zz7,this]
  refine Z1f hz ?_;refine Za rfl (fun h7=>?_) (fun h7=>?_)
  ·have h7:=of_decide_eq_true h7
   refine Z ?_;rw [if_pos h7]
  ·have h7:=of_decide_eq_false h7
   refine Z1 ?_;refine Za rfl (fun h8=>?_) (fun h8=>?_)
   ·have h8:=of_decide_eq_true h8
    have hlen:¬ (((1+(chars l).length:Nat):Int) > IntKind.i64.max):=by
     rw [show IntKind.i64.max=9223372036854775807 from rfl,Zdx];omega
    refine Zf hlen ?_;rw [if_neg h7,if_pos h8]
   ·have h8:=of_decide_eq_false h8
    refine Z ?_;rw [if_neg h7,if_neg h8]
end Go.Hs
end

section
namespace Go.Hs
open Go.Proofs
set_option maxRecDepth 10000
theorem Z5a (w:List UInt8) {b:List (List UInt8)} (h:b≠[]):Zha (w::b)=w++32::Zha b:=by
 cases b with
 | nil=>exact absurd rfl h
 | cons=>rfl
theorem Zcd:∀ {a b:List (List UInt8)},a≠[]→b≠[]→Zha (a++b)=Zha a++32::Zha b
 | [],_,h,_=>absurd rfl h
 | [w],b,_,hb=>by rw [List.singleton_append,Z5a w hb]<;>rfl
 | w::v::r,b,_,hb=>by
  rw [List.cons_append,Z5a w (by simp),Zcd (a:=v::r) (by simp) hb,Z5a w (by simp)];simp
theorem W_ne (x:X) (k:Int):x.W k≠[]:=by
 cases x with
 | leaf=>simp [X.W]
 | un=>rw [X.W];unfold parW;split<;>simp
 | bin=>rw [X.W];unfold parW;split<;>simp
 | ite=>simp [X.W]
theorem Z37 (x:X):x.body≠[]:=by cases x<;>simp [X.body]
theorem Zb2 {ts:List (List UInt8)} (h:ts≠[]):Zha (parW true ts)=[40,32]++Zha ts++[32,41]:=by
 show Zha ([40]::(ts++[[41]]))=_
 rw [Z5a _ (by simp),Zcd h (by simp)];simp [Zha]
theorem Zbe {x:X} (h:x.ok=true) (hf:x.fit) (k:Int):(Zha (x.W k)).length≤66 * x.size:=Nat.le_trans (Z1h _) (Zsx x h hf k)
theorem Z9y (G:Nat→V) (hG:GOk G) (s:Sl XN) (hs:s.l.length<1000):∀ (m:Nat) (y:X) (b:Nat) (c:Col) (k:Int),y.size≤m→At s.l y b→y.ok=true→y.fit→0≤k→k≤9 →
  Spec Tryz.prog G 98 [Zd c 6 Zca s,.int .i64 ((b:Int)+y.size-1),.int .i64 k] Zl (fun v _=>v = .str (Zha (y.W k))):=by
 intro m
 induction m with
 | zero=>intro y b c k hm;have:=y.size_pos;omega
 | succ m ih =>
 intro y b c k hm hat hy hf hk0 hk9;refine Zo 0 96 [.tmp 6] Tryz.func98 fun X0=>?_;have hyp:=y.size_pos;have hget:=hat.get
 have hsz:b+y.size≤s.l.length:=by
  obtain ⟨pre,post,e1,e2⟩:=hat;have:=congrArg List.length e1;simp only [List.length_append,X.row_len] at this;omega
 have hW:=Zv2 hy hk9 (b:Int);have hop:=Zgba hy (b:Int)
 have hbl:(Zha y.body).length≤66 * y.size:=by
  have:=Zv2 hy (k:=0) (by decide) (b:Int);have h2:=Zbe hy hf 0;rw [this] at h2;cases hq:decide (lvl (y.top b).op.toNat<0)
  ·rw [hq] at h2;exact h2
  ·rw [hq,Zb2 (Z37 y)] at h2
   simp only [List.length_append] at h2;omega
 have hpos:((b:Int)+y.size-1)=((b+y.size-1:Nat):Int):=by omega
 have hlt:b+y.size-1<s.l.length:=by omega
 have hmx:∀ z:Nat,z<1000000→¬ ((z:Int) > IntKind.i64.max):=by
  intro z hz;rw [show IntKind.i64.max=9223372036854775807 from rfl];omega
 rw [hpos];generalize hn:y.top b=n at hget hW hop;generalize y.W k=res at hW ⊢;refine Z1 ?_;refine Z1f (zi hget (zi hlt @Zt)) ?_;intro g7;refine AW.weak (Z2 (fun o=>o==7) (l:=[(0,Zd c 6 Zca s),(2,.int .i64 k),(7,.view .new (Zca n))]) (m:=[]) ?_ trivial) ?_
 ·refine Zs ?_
  exact ⟨Ze _,Ze _,Fz.ptr (v:=Zca n) (c := .new) (fz:=0) rfl zp⟩
 obtain ⟨on,hon⟩:∃ on:Nat,n.op=on:=⟨n.op.toNat,by omega⟩
 have hot:n.op.toNat=on:=by omega
 have hon22:on≤22:=by omega
 refine Z1 ?_;refine Z1f @Zt ?_;refine CallA.pure hG (by kernel_rfl) ?_;refine Zs ?_;rw [hon];refine (Zcw G hG on (by omega)).mono ?_;rintro _ _ rfl;refine Zs ?_
 have pw:∀ (z:X) (bz:Nat) (lv:Int),z.size≤m→At s.l z bz→z.ok=true→z.fit→0≤lv→lv≤9→Zni Tryz.prog G 98 [Zd c 6 Zca s,.int .i64 ((bz:Int)+z.size-1),.int .i64 lv] (.str (Zha (z.W lv))):=by
  intro z bz lv h1 h2 h3 h4 h5 h6;refine ⟨by kernel_rfl,?_⟩;refine Zsf @Z4 ?_;refine (ih z bz _ lv h1 h2 h3 h4 h5 h6).mono ?_;rintro _ _ rfl;rfl
 have pS:Zni Tryz.prog G 167 [] (Zd .new 1 V.str (.mk false Zl3)):=⟨by kernel_rfl,by
  simp -implicitDefEqProofs only[go_sem,seval,↓reduceIte,List.map_nil];refine (Zlo G hG).mono ?_;rintro _ _ rfl
  exact Z1b _ _ _ (fun _=>rfl) _⟩
 refine Z9 (fun (_:Unit)=>st [(2,.int .i64 k),(8,.str (Zha y.body)),(9,.int .i64 (lvl on))] []) (fun _=>True) (fun K1 hK1=>?_) ?_;rotate_left
 ·intro _ _
  refine Zy ?_;rw [hot] at hW
  by_cases hlk:lvl on<k
  ·have e1:decide (lvl on<k)=true:=by simpa using hlk
   rw [e1] at hW;have l1:=hmx (2+(Zha y.body).length) (by omega);have l2:=hmx ((Zha y.body).length+1+1+2) (by omega);refine Zf (zi e1 (zi l1 l2)) ?_;rw [hW,Zb2 (Z37 y)]
   try simp
  ·have e1:decide (lvl on<k)=false:=by simpa using hlk
   rw [e1] at hW;refine Zf e1 ?_
   rw [hW]<;>rfl
 refine Z1f @Zt ?_;refine Zc hG ?_ (s:=(Zwk G hG on));refine AW.block ?_
 cases y with
 | leaf op num name =>
  obtain rfl:n=⟨op,num,name,-1,-1,-1⟩:=hn.symm
  rcases Zrd hy with ⟨rfl,h1,rfl⟩ | ⟨rfl,rfl,h1⟩ | ⟨rfl,rfl,rfl⟩ | ⟨rfl,rfl,rfl⟩
  ·have hf:num≤9223372036854775807:=hf
   obtain rfl:on=1:=by have:(1:Int)=on:=hon;omega
   have hp:Zi ((1:Nat):Int)=0:=rfl;refine Z1f hp ?_;refine Z1f @Zt ?_;refine Z1 ?_;refine Z1f @Zt ?_;refine Zc hG ?_ (s:=(Z65 G hG num ⟨by show -9223372036854775808≤num;omega,hf⟩));exact hK1 _ () trivial (Zb zp zp)
  ·obtain rfl:on=2:=by have:(2:Int)=on:=hon;omega
   have hp:Zi ((2:Nat):Int)=0:=rfl;refine Z1f hp ?_;refine Z1f @Zt ?_;refine Z1 ?_;refine Zta rfl ?_
   try clear h23
   refine Z1 ?_;refine Z1f @Zt ?_;exact hK1 _ () trivial (Zb zp zp)
  ·obtain rfl:on=3:=by have:(3:Int)=on:=hon;omega
   have hp:Zi ((3:Nat):Int)=0:=rfl;refine Z1f hp ?_;refine Z1f @Zt ?_;refine Z1 ?_;refine Zta rfl ?_
   try clear h23
   refine Z1 ?_;refine Zta rfl ?_
   try clear h23
   refine Z1 ?_;refine Z1f @Zt ?_;exact hK1 _ () trivial (Zb zp zp)
  ·obtain rfl:on=4:=by have:(4:Int)=on:=hon;omega
   have hp:Zi ((4:Nat):Int)=0:=rfl;refine Z1f hp ?_;refine Z1f @Zt ?_;refine Z1 ?_;refine Zta rfl ?_
   try clear h23
   refine Z1 ?_;refine Zta rfl ?_
   try clear h23
   refine Z1 ?_;refine Zta rfl ?_
   try clear h23
   refine Z1f @Zt ?_;exact hK1 _ () trivial (Zb zp zp)
 | un op a =>
  obtain rfl:n=⟨op,0,[],(b:Int)+a.size-1,-1,-1⟩:=hn.symm;simp only [X.ok,Bool.and_eq_true,decide_eq_true_eq] at hy;have hon:op=on:=hon;subst hon
  have hp:Zi on=1:=by unfold Zi;rw [if_neg (by omega),if_pos (by omega)]
  have hlv:lvl on=9:=by
   have:on=5∨on=6:=by omega
   rcases this with h | h<;>rw [h]<;>rfl
  have hwa:=pw a b 9 (by simp only [X.size] at hm;omega) hat.un hy.2 hf (by decide) (by decide);have hla:=Zbe hy.2 hf 9;have hsl:=Zk1 on (by omega);have hsg:=Zfs on (by omega) (by omega)
  have hj:Zha (X.un (on:Int) a).body=sgT on++[32]++Zha (a.W 9):=by
   rw [X.body,Z5a _ (W_ne a 9)]
   show sgT ((on:Int).toNat)++_=_
   rw [Int.toNat_natCast];simp
  have hsz2:a.size<1000:=by simp only [X.size] at hsz;omega
  generalize Zha (a.W 9)=ta at hwa hla hj;generalize sgT on=sg at hsl hsg hj;have l1:=hmx (sg.length+1) (by omega);have l2:=hmx ((sg++[32]).length+ta.length) (by simp only [List.length_append,List.length_cons,List.length_nil];omega);have hsr:(Sl.mk false Zl3).l=Zl3:=rfl;rw [hlv] at hK1 ⊢;refine Z1f hp ?_;refine Zta rfl ?_
  try clear h22
  refine Z1f hp ?_;refine Zpe rfl ?_;refine Z5 ⟨fun i=>if i=0 then Zd .new 1 V.str (.mk false Zl3) else .str ta,fun i=>if i=0 then .pure else if i=10 then .pure else .lend⟩ (by kernel_rfl) hG (by kernel_rfl) (by kernel_rfl) ?_;refine Zsf (zi @Zt (zi hsr (zi hsg (zi l1 l2)))) ?_;refine ⟨pS,hwa,?_⟩;exact hK1 _ () trivial (Zb (by rw [hj];simp -implicitDefEqProofs only[go_sem,seval,↓reduceIte];try rfl) zp)
 | bin op a b' =>
  obtain rfl:n=⟨op,0,[],(b:Int)+a.size-1,(b:Int)+a.size+b'.size-1,-1⟩:=hn.symm;simp only [X.ok,Bool.and_eq_true,decide_eq_true_eq] at hy;have hon:op=on:=hon;subst hon
  have hp:Zi on=2:=by unfold Zi;rw [if_neg (by omega),if_neg (by omega),if_pos (by omega)]
  obtain ⟨l1,l2,_,_⟩:=Zvo on (by omega) (by omega);simp only [X.size] at hm hsz;have hwa:=pw a b (lvl on) (by omega) hat.bin.1 hy.1.2 hf.1 (by omega) (by omega);have hwb:=pw b' (b+a.size) (lvl on+1) (by omega) hat.bin.2 hy.2 hf.2 (by omega) (by omega);rw [Int.natCast_add] at hwb;have hw:IntKind.i64.wrap (lvl on+1)=lvl on+1:=w64 (by omega) (by omega);have hla:=Zbe hy.1.2 hf.1 (lvl on);have hlb:=Zbe hy.2 hf.2 (lvl on+1);have hsl:=Zk1 on (by omega);have hsg:=Zfs on (by omega) (by omega)
  have hj:Zha (X.bin (on:Int) a b').body=Zha (a.W (lvl on))++[32]++sgT on++[32]++Zha (b'.W (lvl on+1)):=by
   rw [X.body,Zcd (W_ne a _) (by simp),Z5a _ (W_ne b' _)];rw [Int.toNat_natCast];simp
  generalize Zha (a.W (lvl on))=ta at hwa hla hj;generalize Zha (b'.W (lvl on+1))=tb at hwb hlb hj;generalize sgT on=sg at hsl hsg hj;have m1:=hmx (ta.length+1) (by omega);have m2:=hmx ((ta++[32]).length+sg.length) (by simp only [List.length_append,List.length_cons,List.length_nil];omega);have m3:=hmx ((ta++[32]++sg).length+1) (by simp only [List.length_append,List.length_cons,List.length_nil];omega);have m4:=hmx ((ta++[32]++sg++[32]).length+tb.length) (by simp only [List.length_append,List.length_cons,List.length_nil];omega);have hsr:(Sl.mk false Zl3).l=Zl3:=rfl;refine Z1f hp ?_;refine Zta rfl ?_
  try clear h22
  refine Z1f hp ?_;refine Zta rfl ?_
  try clear h22
  refine Z1f hp ?_;refine Zpe rfl ?_;refine Z5 ⟨fun i=>if i=4 then .str ta else if i=6 then Zd .new 1 V.str (.mk false Zl3) else .str tb,fun i=>if i=4 then .pure else if i=6 then .pure else if i=18 then .pure else .lend⟩ (by kernel_rfl) hG (by kernel_rfl) (by kernel_rfl) ?_;refine Zsf (zi @Zt (zi hsr (zi hsg (zi m1 (zi m2 (zi m3 (zi m4 hw))))))) ?_;refine ⟨hwa,pS,hwb,?_⟩;exact hK1 _ () trivial (Zb (by rw [hj];simp -implicitDefEqProofs only[go_sem,seval,↓reduceIte];try rfl) zp)
 | ite a b' c' =>
  obtain rfl:n=⟨22,0,[],(b:Int)+a.size-1,(b:Int)+a.size+b'.size-1,(b:Int)+a.size+b'.size+c'.size-1⟩:=hn.symm;simp only [X.ok,Bool.and_eq_true] at hy;simp only [X.size] at hm hsz
  obtain rfl:on=22:=by have:(22:Int)=on:=hon;omega
  have hp:Zi ((22:Nat):Int)=3:=rfl;have hwa:=pw a b 0 (by omega) hat.ite.1 hy.1.1 hf.1 (by decide) (by decide);have hwb:=pw b' (b+a.size) 0 (by omega) hat.ite.2.1 hy.1.2 hf.2.1 (by decide) (by decide);have hwc:=pw c' (b+a.size+b'.size) 0 (by omega) hat.ite.2.2 hy.2 hf.2.2 (by decide) (by decide);rw [Int.natCast_add] at hwb;rw [Int.natCast_add,Int.natCast_add] at hwc;have hla:=Zbe hy.1.1 hf.1 0;have hlb:=Zbe hy.1.2 hf.2.1 0;have hlc:=Zbe hy.2 hf.2.2 0
  have hj:Zha (X.ite a b' c').body=[105,102,32]++Zha (a.W 0)++[32,116,104,101,110,32]++Zha (b'.W 0)++[32,101,108,115,101,32]++Zha (c'.W 0)++[32,101,110,100,105,102]:=by
   rw [X.body,Z5a _ (by simp),Zcd (W_ne a 0) (by simp),Z5a _ (by simp),Zcd (W_ne b' 0) (by simp),Z5a _ (by simp),Zcd (W_ne c' 0) (by simp)];simp [Zha,wIf,wThen,wElse,wEndif]
  generalize Zha (a.W 0)=ta at hwa hla hj;generalize Zha (b'.W 0)=tb at hwb hlb hj;generalize Zha (c'.W 0)=tc at hwc hlc hj;have m1:=hmx (3+ta.length) (by omega);have m2:=hmx (ta.length+1+1+1+6) (by omega);have m3:=hmx ((ta++[32,116,104,101,110,32]).length+1+1+1+tb.length) (by simp only [List.length_append,List.length_cons,List.length_nil];omega);have m4:=hmx ((ta++[32,116,104,101,110,32]++tb).length+1+1+1+6) (by simp only [List.length_append,List.length_cons,List.length_nil];omega);have m5:=hmx ((ta++[32,116,104,101,110,32]++tb++[32,101,108,115,101,32]).length+1+1+1+tc.length) (by simp only [List.length_append,List.length_cons,List.length_nil];omega);have m6:=hmx ((ta++[32,116,104,101,110,32]++tb++[32,101,108,115,101,32]++tc).length+1+1+1+6) (by simp only [List.length_append,List.length_cons,List.length_nil];omega);refine Z1f hp ?_;refine Zta rfl ?_
  try clear h22
  refine Z1f hp ?_;refine Zta rfl ?_
  try clear h22
  refine Z1f hp ?_;refine Zta rfl ?_
  try clear h22
  refine Z5 ⟨fun i=>if i=3 then .str ta else if i=9 then .str tb else .str tc,fun i=>if i=3 then .pure else if i=9 then .pure else if i=15 then .pure else .lend⟩ (by kernel_rfl) hG (by kernel_rfl) (by kernel_rfl) ?_;refine Zsf (zi @Zt (zi m1 (zi m2 (zi m3 (zi m4 (zi m5 m6)))))) ?_;refine ⟨hwa,hwb,hwc,?_⟩;exact hK1 _ () trivial (Zb (by rw [hj];simp -implicitDefEqProofs only[go_sem,seval,↓reduceIte];try rfl) zp)
end Go.Hs
end

section
namespace Go.Hs
open Go.Proofs
set_option maxRecDepth 10000
theorem Zoaa (ws:List (List UInt8)):Lib.join ws [32]=Zha ws:=by
 have:∀ ws:List (List UInt8),[32].intercalate ws=Zha ws:=by
  intro ws
  induction ws with
  | nil=>rfl
  | cons w r ih =>
   cases r with
   | nil=>simp [Zha,List.intercalate,List.intersperse]
   | cons v r =>
    rw [Z5a _ (by simp),← ih];simp [List.intercalate,List.intersperse]
 exact this ws
theorem Zuw (G:Nat→V) (c:Col) (ws:List (List UInt8)) (hne:ws≠[]) (hl:ws.length<1000000) (hj:(Zha ws).length<1000000) :
  Spec Tryz.prog G 46 [Zd c 1 V.str (.mk false ws),.str [32]] Zl (fun v _=>v = .str (Zha ws)):=by
 refine Zvc fun X cargs _ _ hA=>?_;obtain ⟨x,y,rfl,hx,hy⟩:=hA.two;obtain ⟨p',rfl,hp⟩:=hy.str_inv;have hfl:=Z0w ws;generalize hv:Zd c 1 V.str (.mk false ws)=v at hx;have hv:v = .slice c false 1 (ws.map V.str):=hv.symm;subst hv;generalize hm:ws.map V.str=ls at hx hfl
 cases hx with
 | slice0=>cases ws with
  | nil=>exact absurd rfl hne
  | cons=>cases hm
 | slice _ _ _ _ b off cap f hcap hclip hE hc hr =>
  have hln:ls.length=ws.length:=by rw [← hm,List.length_map]
  have hfn:(flat ls).length=ws.length:=by rw [hfl,hln]
  have hget:∀ j (h:j<ws.length),X.w.cell? ⟨b,off+j,none⟩=some (.string ⟨ws[j].toArray⟩):=by
   intro j h;have h1:=(hc j (by omega)).2.2.1;have h2:=hr j (by omega)
   have e:(flat ls)[j]'(by omega) = .str ws[j]:=by
    have:(flat ls)[j]? = some (.str ws[j]):=by rw [hfl,← hm,List.getElem?_map,List.getElem?_eq_getElem h]<;>rfl
    rw [List.getElem?_eq_getElem (by omega)] at this;exact Option.some.inj this
   rw [e] at h2;obtain ⟨s',h3,h4⟩:=h2.str_inv
   have h5:s'=⟨ws[j].toArray⟩:=by
    obtain ⟨⟨l⟩⟩:=s';simp at h4;rw [h4]
   rw [h3,h5] at h1;exact h1
  have hbk:b<X.w.heap.size:=by
   have h0:=hget 0 (by cases ws with | nil=>exact absurd rfl hne | cons=>simp);rw [← Nat.not_le];intro hle
   have:X.w.heap[b]? = none:=by rw [Array.getElem?_eq_none_iff];exact hle
   simp [World.cell?,this] at h0
  have hxs:(ws.map fun w=>(⟨w.toArray⟩:ByteArray)).map (·.data.toList)=ws:=by rw [List.map_map];exact (List.map_congr_left fun w _=>rfl).trans (List.map_id _)
  have hjl:Lib.join ((ws.map fun w=>(⟨w.toArray⟩:ByteArray)).map (·.data.toList)) p'.data.toList=Zha ws:=by rw [hxs,hp,Zoaa]
  have hkit:=Any.strings_Join Zn0 Zey b off cap (ws.map fun w=>(⟨w.toArray⟩:ByteArray)) p' X.w (fun j x hj=>by
   rw [List.getElem?_map] at hj
   cases hw:ws[j]? with
   | none=>rw [hw] at hj;cases hj
   | some w =>
    rw [hw] at hj;obtain ⟨q1,q2⟩:=List.getElem?_eq_some_iff.1 hw;cases hj
    rw [hget j q1,q2]) hbk (by rw [List.length_map];omega) (by rw [List.length_map,← hln];exact hcap) (by rw [hjl];omega)
  rw [List.length_map,← hln] at hkit;refine (show Calls Tryz.prog 46 _ _ _ from hkit).mono ?_;rintro e w' ⟨rfl,hB⟩;exact ⟨_,_,rfl,hB,.str _ _ rfl,by rw [hjl]⟩
def Zi8 (l:List XN) (r:List UInt8 × Int):Prop:=(Zma l≠0→r=([],Zma l))∧∀ x:X,x.ok=true→l=x.row 0→Zma l=0→r=(Zha (x.W 0),0)
def encPr (r:List UInt8 × Int):V := .tuple [.str r.1,.int .i64 r.2]
theorem Zfd {l:List XN} (h:Zma l=0):∃ x:X,x.ok=true∧l=x.row 0∧x.depth≤64:=by
 have hd:Zdb l≠0:=by
  intro hd;rw [Zma,if_pos hd] at h;cases h
 obtain ⟨x,hx,rfl⟩:=Zsg hd;refine ⟨x,hx,rfl,?_⟩;unfold Zma at h;rw [if_neg hd] at h
 split at h
 ·cases h
 ·rename_i q
  rw [Zrg hx] at q;omega
theorem Zqy (G:Nat→V) (hE:GExp G) (c:Col) (s:Sl XN) (hs:s.l.length<1000) (hnm:∀ n∈s.l,n.name.length<100000) (hnum:∀ n∈s.l,n.num≤9223372036854775807) :
  Spec Tryz.prog G 45 [.agg [Zd c 6 Zca s]] Zl (fun v _=>∃ r,v=encPr r∧Zi8 s.l r):=by
 have hG:=hE.ok;refine Zo 0 17 [.tmp 2,.tmp 3] Tryz.func45 fun X0=>?_;refine Z1 ?_;intro g1;refine Z1 ?_;refine Zcf @Z4 hG ?_ (s:=(Zyg G hE _ s (by omega) hnm));refine Z1 ?_
 by_cases hc:Zma s.l=0
 rotate_left
 ·have e1:(Zma s.l != 0)=true:=by simpa using hc
  rw [e1];refine Z ?_;exact ⟨_,rfl,fun _=>rfl,fun x _ _ h=>absurd h hc⟩
 have e1:(Zma s.l != 0)=false:=by simpa using hc
 rw [e1];refine Z0 ?_;obtain ⟨x,hx,hl,hd⟩:=Zfd hc;have hfit:x.fit:=Z6h x 0 (by rw [← hl];exact hnum)
 have hsz:s.l.length=x.size:=by rw [hl,X.row_len]
 have hat:At s.l x 0:=by rw [hl];exact Zlh x
 have hxp:=x.size_pos
 have hw:IntKind.i64.wrap ((s.l.length:Int)-1)=((0:Nat):Int)+x.size-1:=by rw [w64 (by omega) (by omega)];omega
 have hpl:=Zpo hx hfit;have hcn:=Zll x 0;refine Z1f hw ?_;refine Znf @Z4 hG ?_ (s:=(Zpy G hE s hs x.size x 0 _ 0 (Nat.le_refl _) hat hx hfit (by decide) (by decide)));have hrb:(Zd .new 1 V.str (.mk false (x.W 0))).recol Col.bk=Zd .new 1 V.str (.mk false (x.W 0)):=Z1b _ _ _ (fun _=>rfl) _;refine Zsf hrb ?_;refine CallA.pure hG (by kernel_rfl) ?_;rw [List.map_cons,List.map_cons,List.map_nil,show (Zd .new 1 V.str (.mk false (x.W 0))).recol Col.ent=Zd (Col.ent .new) 1 V.str (.mk false (x.W 0)) from Z1b _ _ _ (fun _=>rfl) _];refine (Zuw G _ (x.W 0) (W_ne x 0) (by omega) (by omega)).mono ?_;rintro _ _ rfl;refine Zs ?_;refine Z ?_;exact ⟨(Zha (x.W 0),0),rfl,fun h=>absurd hc h,fun y hy hly _=>by rw [Zks y x 0 hy hx (by rw [← hly,← hl])]⟩
theorem Zaw (G:Nat→V) (hG:GOk G) (c:Col) (s:Sl XN) (hs:s.l.length<1000) (hnm:∀ n∈s.l,n.name.length<100000) (hnum:∀ n∈s.l,n.num≤9223372036854775807) :
  Spec Tryz.prog G 47 [Zd c 6 Zca s] Zl (fun v _=>∃ r,v=encPr r∧Zi8 s.l r):=by
 refine Zo 0 15 [.tmp 2,.tmp 3] Tryz.func47 fun X0=>?_;refine Z1 ?_;refine Z1 ?_;refine Zcf @Z4 hG ?_ (s:=(Zqj G hG _ s (by omega) hnm));refine Z1 ?_
 by_cases hc:Zma s.l=0
 rotate_left
 ·have e1:(Zma s.l != 0)=true:=by simpa using hc
  rw [e1];refine Z ?_;exact ⟨_,rfl,fun _=>rfl,fun x _ _ h=>absurd h hc⟩
 have e1:(Zma s.l != 0)=false:=by simpa using hc
 rw [e1];refine Z0 ?_;obtain ⟨x,hx,hl,hd⟩:=Zfd hc;have hfit:x.fit:=Z6h x 0 (by rw [← hl];exact hnum)
 have hsz:s.l.length=x.size:=by rw [hl,X.row_len]
 have hat:At s.l x 0:=by rw [hl];exact Zlh x
 have hxp:=x.size_pos
 have hw:IntKind.i64.wrap ((s.l.length:Int)-1)=((0:Nat):Int)+x.size-1:=by rw [w64 (by omega) (by omega)];omega
 refine Z1f hw ?_;refine Zcf @Z4 hG ?_ (s:=(Z9y G hG s hs x.size x 0 _ 0 (Nat.le_refl _) hat hx hfit (by decide) (by decide)));refine Z ?_;exact ⟨(Zha (x.W 0),0),rfl,fun h=>absurd hc h,fun y hy hly _=>by rw [Zks y x 0 hy hx (by rw [← hly,← hl])]⟩
end Go.Hs
end
