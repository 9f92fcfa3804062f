/- Part 47 of the proof of a statement of seat YtohdjmgdaaipaaaGreatDoor: HsHActE HsHActF HsHActG HsHActT HsHActH HsHActI HsHActW HsHActW2 HsHActW3 HsHActSp HsHActL1 HsHActS4 HsHActL2 HsHActL3 HsHActWn. -/
import Derived.Test.YtohdjmgdaaipaaaGreatDoorPart45
import Derived.Test.YtohdjmgdaaipaaaGreatDoorPart46
import Derived.Test.YtohdjmgdaaipaaaGreatDoorPart43
import Derived.Test.YtohdjmgdaaipaaaGreatDoorPart41
import Derived.Test.YtohdjmgdaaipaaaGreatDoorPart30
import Derived.Test.YtohdjmgdaaipaaaGreatDoorPart31
set_option linter.unusedSimpArgs false
set_option linter.unusedVariables false
section
namespace Go.Hs
open Go.Proofs
set_option maxRecDepth 10000
theorem Zs1 (F:Col→Col) (c:Col) (s:ASt):(Zsa c s).recol F=Zsa (F c) s:=by simp only [Zcg,Zme,List.map_cons,List.map_nil,Zxd,Zlg,Z4]
def sdO (gx:Nat) (l:List ASt):AObj:=Zjb gx (Zsa .new) l
def rdS (l:List Tk) (i:Nat) (acc:List ASt):Bool × CU × List ASt :=
 if acc.length=512 then (false,⟨i,3⟩,acc) else ((Zoc l i).2.2==0,⟨(Zoc l i).2.1.toNat,(Zoc l i).2.2⟩,acc++[(Zoc l i).1])
theorem Zii (G:Nat→V) (hE:GExp G) (sl:Sl Tk) (hT:TkOk sl.l) (g:Nat) (i:Nat) (hi:i<sl.l.length) (acc:List ASt) (hac:acc.length≤512) (gx:Nat) :
  InSp Tryz.prog G 41 [.ptr 21 g 0] (Zub Zl [(21,cuO sl g (grown 1038 gx 3 acc) ⟨i,0⟩),(1038,sdO gx acc)])
   (fun v H'=>v = .bool (rdS sl.l i acc).1∧∃ gx',H' 21=cuO sl g (grown 1038 gx' 3 (rdS sl.l i acc).2.2) (rdS sl.l i acc).2.1∧H' 1038=sdO gx' (rdS sl.l i acc).2.2):=by
 have hG:=hE.ok;have hTl:=hT.len
 have hP:rdS sl.l i acc=if acc.length=512 then (false,⟨i,3⟩,acc) else ((Zoc sl.l i).2.2==0,⟨(Zoc sl.l i).2.1.toNat,(Zoc sl.l i).2.2⟩,acc++[(Zoc sl.l i).1]):=rfl
 generalize rdS sl.l i acc=res at hP ⊢;refine Zye 1000 42 [.tmp 2] Tryz.func41 rfl rfl rfl rfl fun X=>?_;simp only [Zub];refine Z1 ?_;refine Z1 ?_
 by_cases h5:acc.length=512
 ·rw [if_pos h5] at hP
  have q1:((acc.length:Int)==512)=true:=by rw [beq_iff_eq];omega
  refine Zh fun K1 hK1=>?_;refine Zf (zi @Zph q1) ?_;rw [hP];exact ⟨rfl,gx,by simp -implicitDefEqProofs only[go_sem,seval,↓reduceIte];try rfl,by simp -implicitDefEqProofs only[go_sem,seval,↓reduceIte];try rfl⟩
 rw [if_neg h5] at hP
 have q1:((acc.length:Int)==512)=false:=by rw [beq_eq_false_iff_ne];omega
 refine Z9 (fun (_:Unit)=>st [(0,.ptr 21 g 0),(3,.func (.func (if Znb sl.l i=Zmd then 90 else 88)) [.ptr 21 g 0] [])] [(21,cuO sl g (grown 1038 gx 3 acc) ⟨i,0⟩),(1038,sdO gx acc)]) (fun _=>True) (fun K1 hK1=>?_) ?_
 ·refine Z1f (zi @Zph q1) ?_
  refine Z1 ?_;refine CuS.call hG (Z6j G hG sl g ⟨i,0⟩ Zmd) (fun F=>Zff F _ _ _ _) (by kernel_rfl) rfl rfl zr ?_;rw [decide_eq_true hi,Bool.true_and];refine Zu ?_
  by_cases hw:Znb sl.l i=Zmd
  ·have q2:(Znb sl.l i==Zmd)=true:=by simpa using hw
   rw [q2];rw [if_pos hw] at hK1;refine Z1 ?_;exact hK1 _ () trivial (Zb zp zp)
  ·have q2:(Znb sl.l i==Zmd)=false:=by simpa using hw
   rw [q2];rw [if_neg hw] at hK1;refine Z0 ?_;exact hK1 _ () trivial (Zb zp zp)
 intro _ _
 have hstP:Zoc sl.l i=if Znb sl.l i=Zmd then Z5d sl.l 2 [40] [[41],[59]] (i+1) else Z5d sl.l 1 [58,61] [[59]] i:=rfl
 by_cases hw:Znb sl.l i=Zmd
 ·rw [if_pos hw] at hstP
  rw [if_pos hw];have hsp:=Zo4 G hE sl hT g i hw;rw [← hstP] at hsp;have hb:=(Z7n sl.l i).ge;generalize Zoc sl.l i=q at hP hsp hb;obtain ⟨x,m,e⟩:=q;simp only at hP hsp hb;generalize hn:m.toNat=n at hP hsp;refine Z1 ?_;refine CuS.call hG hsp (fun F=>Zff F _ _ _ _) (by kernel_rfl) rfl (by first | rfl | (simp -implicitDefEqProofs only[go_sem,seval,↓reduceIte,Zcg,Z4];try rfl)) zr ?_;simp -implicitDefEqProofs only[go_sem,seval,↓reduceIte,Zub,Zcg];intro g4;refine ZTf @Zph hG ?_;intro g37;refine Zpb (f:=Zsa .new) (l:=acc) (l2:=[x]) (g:=gx) (Zxa _) rfl rfl rfl zp (Zda (by omega) (by simp;omega)) fun g2=>?_;refine Zs ?_;refine Z ?_;rw [hP];exact ⟨rfl,g2,by simp -implicitDefEqProofs only[go_sem,seval,↓reduceIte];try rfl,by simp -implicitDefEqProofs only[go_sem,seval,↓reduceIte];try rfl⟩
 ·rw [if_neg hw] at hstP
  rw [if_neg hw];have hsp:=Zrx G hE sl hT g i (by omega);rw [← hstP] at hsp;have hb:=(Z7n sl.l i).ge;generalize Zoc sl.l i=q at hP hsp hb;obtain ⟨x,m,e⟩:=q;simp only at hP hsp hb;generalize hn:m.toNat=n at hP hsp;refine Z1 ?_;refine CuS.call hG hsp (fun F=>Zff F _ _ _ _) (by kernel_rfl) rfl (by first | rfl | (simp -implicitDefEqProofs only[go_sem,seval,↓reduceIte,Zcg,Z4];try rfl)) zr ?_;simp -implicitDefEqProofs only[go_sem,seval,↓reduceIte,Zub,Zcg];intro g4;refine ZTf @Zph hG ?_;intro g37;refine Zpb (f:=Zsa .new) (l:=acc) (l2:=[x]) (g:=gx) (Zxa _) rfl rfl rfl zp (Zda (by omega) (by simp;omega)) fun g2=>?_;refine Zs ?_;refine Z ?_;rw [hP];exact ⟨rfl,g2,by simp -implicitDefEqProofs only[go_sem,seval,↓reduceIte];try rfl,by simp -implicitDefEqProofs only[go_sem,seval,↓reduceIte];try rfl⟩
end Go.Hs
end

section
namespace Go.Hs
open Go.Proofs
set_option maxRecDepth 10000
@[go_sem] theorem noMp_cuO (S:Sl Tk) (g:Nat) (v:V) (r:CU):(cuO S g v r).noMp=cuO S g v r:=rfl
@[go_sem] theorem noMp_sdO (g:Nat) (l:List ASt):(sdO g l).noMp=sdO g l:=by cases l<;>rfl
theorem Zq2 {l:List Tk} {n f i:Nat} {acc:List ASt} (hi:i<l.length):Z1d l n (f+1) i acc =
  if (rdS l i acc).1=false then ([],Zxk l n ((rdS l i acc).2.1.i:Int),(rdS l i acc).2.1.e) else Z1d l n f (rdS l i acc).2.1.i (rdS l i acc).2.2:=by
 rw [Z1d,if_neg (by omega)];unfold rdS
 by_cases h5:acc.length=512
 ·rw [if_pos h5,if_pos h5]<;>rfl
 rw [if_neg h5,if_neg h5];have hb:=(Z7n l i).ge
 by_cases he:(Zoc l i).2.2=0
 ·rw [if_neg (by simpa using he),if_neg (by simp [he])]
 ·have q:((Zoc l i).2.2==0)=false:=by simpa using he
  rw [if_pos he,if_pos q];simp only [Int.toNat_of_nonneg (show 0≤(Zoc l i).2.1 by omega)]
theorem Zt1 {l:List Tk} {i:Nat} {acc:List ASt} (h:(rdS l i acc).1=true):(rdS l i acc).2.1.e=0∧i<(rdS l i acc).2.1.i∧(rdS l i acc).2.1.i≤l.length∧(rdS l i acc).2.2.length=acc.length+1∧acc.length≠512:=by
 unfold rdS at h ⊢
 by_cases h5:acc.length=512
 ·rw [if_pos h5] at h;cases h
 rw [if_neg h5] at h ⊢
 have he:(Zoc l i).2.2=0:=by simpa using h
 obtain ⟨h1,h2⟩:=(Z7n l i).ok he;refine ⟨he,?_,?_,by rw [List.length_append]<;>rfl,h5⟩
 ·show i<(Zoc l i).2.1.toNat;omega
 ·show (Zoc l i).2.1.toNat≤l.length;omega
def encBP (r:List ASt × Int × Int):V := .tuple [.agg [encABs .new r.1],.int .i64 r.2.1,.int .i64 r.2.2]
theorem Zeb (G:Nat→V) (hE:GExp G) (s:List UInt8) (hs:s.length<100000):Spec Tryz.prog G 14 [.str s] Zl (fun v _=>v=encBP (Z0b s)):=by
 have hG:=hE.ok;refine Zo 0 69 [.cell 2 29,.tmp 3,.tmp 4] Tryz.func14 fun X=>?_
 have hP:Z0b s=if (Zbb s).2.2≠0 then (([]:List ASt),(Zbb s).2.1,(Zbb s).2.2) else Z1d (Zbb s).1 s.length ((Zbb s).1.length+1) 0 []:=rfl
 generalize Z0b s=res at hP ⊢;have hT:=Zvy hs;have hl:=Zym G hE s hs;generalize Zbb s=p at hP hT hl;obtain ⟨l,at0,e0⟩:=p;simp only at hP hT;have hTl:=hT.len;refine Z1 ?_;intro g2;refine Z1 ?_;refine Zn hG ?_ (s:=hl);refine Zsf (zi @encTok.eq_1 (zi @encTks.eq_1 @Z2a)) ?_;have hS:(Zea l).l=l:=Zza l;generalize Zea l=S at hS;subst hS;refine Zy ?_
 by_cases he:e0=0
 rotate_left
 ·rw [if_pos he] at hP
  have q1:(e0==0)=false:=by simpa using he
  refine Zdc (by kernel_rfl) ?_;simp -implicitDefEqProofs only[go_sem,seval,↓reduceIte,bne,q1];refine Z ?_
  rw [hP]<;>rfl
 rw [if_neg (by simpa using he)] at hP
 have q1:(e0==0)=true:=by simpa using he
 refine Zdc (by kernel_rfl) ?_;simp -implicitDefEqProofs only[go_sem,seval,↓reduceIte,bne,q1];refine Z1 ?_;intro g21;refine AW.weak (Z2 (fun _=>false) (l:=[(0,.str s),(2,.ptr 2 g2 0),(5,Zd .new 3 Z8a S),(6,.ptr 21 g21 0)]) (m:=[(2,.cells .new g2 0 [.nils]),(21,cuO S g21 .nils ⟨0,0⟩)]) ?_ ?_) ?_
 ·refine Zs ?_
  exact ⟨Ze _,Ze _,Ze _,Ze _⟩
 ·simp only [Zp,Zz,and_true]
  exact ⟨FzO.keep rfl zp,Zjy (c := .new) (fz:=0) (cs:=[Zd .new 3 Z8a S,.int .i64 0,.int .i64 0,.nils]) rfl zp ⟨Fz.any (zpf @Z2a),Ze _,Ze _,Ze _,trivial⟩⟩
 refine Zy ?_;refine AW.block ?_
 refine Zwc (fun (x:(Nat × Nat) × List ASt)=>st [(0,.str s),(2,.ptr 2 g2 0),(5,Zd .new 3 Z8a S),(6,.ptr 21 g21 0)] [(2,.cells .new g2 0 [.nils]),(21,cuO S g21 (grown 1038 x.1.1 3 x.2) ⟨x.1.2,0⟩),(1038,sdO x.1.1 x.2)])
  (fun x=>x.1.2≤S.l.length∧x.2.length≤512∧∃ f,S.l.length<f+x.1.2∧Z1d S.l s.length f x.1.2 x.2=res) (fun x=>S.l.length-x.1.2) ((0,0),[]) ⟨Nat.zero_le _,Nat.zero_le _,S.l.length+1,Nat.lt_succ_self _,hP.symm⟩
  (Zb zp (by simp -implicitDefEqProofs only[go_sem,seval,↓reduceIte];first | rfl | exact ⟨rfl,rfl⟩)) ?_
 rintro ⟨⟨gx,i⟩,acc⟩ ⟨hi,hac,f,hf,hR⟩ L3 hL3;simp only at hi hac hf hR;refine Zy ?_
 cases f with
 | zero=>omega
 | succ f =>
 refine Z1f @Zph ?_;refine Za rfl (fun h29=>?_) (fun h29=>?_);rotate_left
 ·have hil:S.l.length≤i:=by have:=zN h29;omega
  rw [Z1d,if_pos hil] at hR;refine Z0 ?_;refine AW.weak (Z2 (fun o=>o==1038) (l:=[(2,.ptr 2 g2 0),(6,.ptr 21 g21 0)]) (m:=[(2,.cells .new g2 0 [.nils]),(21,.cells .any g21 0 [.top,.int .i64 i,.int .i64 0,Zd .new 3 (Zsa .new) (Zea acc)])]) ?_ ?_) ?_
  ·refine Zs ?_
   first | exact ⟨Ze _,Ze _⟩ | exact Ze _
  ·simp only [Zp,Zz,and_true]
   exact ⟨FzO.keep rfl zp,Zol (c := .any) (fz:=0) (cs:=[Zd .any 3 Z8a S,.int .i64 i,.int .i64 0,grown 1038 gx 3 acc]) rfl zp ⟨Fz.top _,Ze _,Ze _,Zyb rfl zp (Zxa _),trivial⟩⟩
  refine Z ?_
  rw [← hR]<;>rfl
 have hil:i<S.l.length:=zL h29;rw [Zq2 hil] at hR;refine Z0 ?_;refine AW.block ?_;have hst:=Zii G hE S hT g21 i hil acc hac gx;have hrt := @Zt1 S.l i acc;generalize rdS S.l i acc=q at hR hst hrt;obtain ⟨b,⟨j,e⟩,acc'⟩:=q;simp only at hR hst hrt;refine Z1 ?_;refine CallA.inl [(21,cuO S g21 (grown 1038 gx 3 acc) ⟨i,0⟩),(1038,sdO gx acc)] (by kernel_rfl) ?_ ?_
 ·intro p hp
  simp only [List.mem_cons,List.not_mem_nil,or_false] at hp
  rcases hp with rfl | rfl
  ·simp -implicitDefEqProofs only[go_sem,seval,↓reduceIte];try rfl
  ·simp -implicitDefEqProofs only[go_sem,seval,↓reduceIte];try rfl
 refine hst.mono ?_;rintro _ H' ⟨rfl,gx',q21,q1038⟩;simp only [List.map_cons,List.map_nil,q21,q1038]
 cases b with
 | true =>
  obtain ⟨rfl,hj,hjl,hal,ha5⟩:=hrt rfl;rw [if_neg (by decide)] at hR;refine Zu ?_;refine Z0 ?_;refine hL3 _ ⟨((gx',j),acc'),?_,⟨?_,?_,f,?_,hR⟩,Zb zp zp⟩
  ·show S.l.length-j<S.l.length-i;omega
  ·show j≤_;omega
  ·show acc'.length≤_;omega
  ·show S.l.length<f+j;omega
 | false =>
  rw [if_pos rfl] at hR;refine Zu ?_;refine Z1f @Zph ?_;refine Za rfl (fun h40=>?_) (fun h40=>?_)
  ·have hjl:j<S.l.length:=zL h40
   have hgj:=List.getElem?_eq_getElem hjl;generalize S.l[j]=t at hgj;rw [Zqs hgj] at hR;refine AW.weak (Z2 (fun o=>o==21) (l:=[(0,.str s),(2,.ptr 2 g2 0),(5,Zd .new 3 Z8a S),(6,.view .any (.agg [Zd .any 3 Z8a S,.int .i64 j,.int .i64 e,grown 1038 gx' 3 acc']))]) (m:=[(2,.cells .new g2 0 [.nils])]) ?_ ?_) ?_
   ·refine Zs ?_
    exact ⟨Ze _,Ze _,Ze _,Fz.ptr (c := .any) (fz:=0) (v := .agg [Zd .any 3 Z8a S,.int .i64 j,.int .i64 e,grown 1038 gx' 3 acc']) rfl zp⟩
   ·simp only [Zp,Zz,and_true]
    exact FzO.keep rfl zp
   refine Zy <| Z5 ⟨fun _ => .top,fun k=>if k=6 then .lend else if k=9 then .lend else if k=14 then .lend else .pure⟩ (by kernel_rfl) hG (by kernel_rfl) (by kernel_rfl) ?_
   refine Zsf (zi hgj @Zxb) ?_;refine Z ?_
   rw [← hR]<;>rfl
  ·have hjl:¬ j<S.l.length:=by have:=zN h40;omega
   refine Z0 ?_;refine AW.weak (Z2 (fun o=>o==21) (l:=[(0,.str s),(2,.ptr 2 g2 0),(5,Zd .new 3 Z8a S),(6,.view .any (.agg [Zd .any 3 Z8a S,.int .i64 j,.int .i64 e,grown 1038 gx' 3 acc']))]) (m:=[(2,.cells .new g2 0 [.nils])]) ?_ ?_) ?_
   ·refine Zs ?_
    exact ⟨Ze _,Ze _,Ze _,Fz.ptr (c := .any) (fz:=0) (v := .agg [Zd .any 3 Z8a S,.int .i64 j,.int .i64 e,grown 1038 gx' 3 acc']) rfl zp⟩
   ·simp only [Zp,Zz,and_true]
    exact FzO.keep rfl zp
   refine Zy <| Z5 ⟨fun _ => .top,fun k=>if k=7 then .lend else .pure⟩ (by kernel_rfl) hG (by kernel_rfl) (by kernel_rfl) ?_
   refine Zs ?_;refine Z ?_;rw [← hR];unfold Zxk
   rw [if_neg (by omega)]<;>rfl
end Go.Hs
end

section
namespace Go.Hs
open Go.Proofs
set_option maxRecDepth 10000
theorem Z33 (G:Nat→V):Spec Tryz.prog G 46 [.nils,.str [32]] Zl (fun v _=>v = .str []):=by
 refine Zo 0 75 [.tmp 4] Tryz.func46 fun X=>?_;exact Zr
noncomputable def pW (s:ASt):List (List UInt8) :=
 if s.kind=1 then [s.name,[58,61],(prP s.x).1,[59]]
 else if (prP s.x).1=[] then [[101,109,105,116],s.name,[40],[41],[59]] else [[101,109,105,116],s.name,[40],(prP s.x).1,[41],[59]]
theorem pW_ne (s:ASt):pW s≠[]:=by
 unfold pW
 split
 ·simp
 ·split<;>simp
theorem prP_nil:(prP []).1=[]:=by
 unfold prP;rw [dif_neg (by decide)]
theorem pW_join {s:ASt} (h:Zyf s=true) (hn:∀ n∈s.x,n.num≤9223372036854775807):Zha (pW s)=sT s:=by
 obtain ⟨k,nm,xs⟩:=s;simp only at hn;simp only [Zyf,Bool.and_eq_true,Bool.or_eq_true,beq_iff_eq] at h;obtain ⟨⟨hk,hnm⟩,hx⟩:=h
 by_cases h0:xs=[]
 ·have hk2:k=2:=by
   rcases hx with ⟨q,_⟩ | q
   ·exact q
   ·rw [h0] at q;exact absurd q (by decide)
  subst hk2 h0;simp [pW,sT,xsT,Zha,prP_nil]
 ·have hc:Zma xs=0:=by
   rcases hx with ⟨_,q⟩ | q
   ·exact absurd (List.isEmpty_iff.1 q) h0
   ·exact q
  obtain ⟨x,hxo,rfl,hd⟩:=Zfd hc;have hpr:=Zps hxo hc;have hf:=Z6h x 0 hn
  have hne:Zha (x.W 0)≠[]:=by
   have hw:=Zwf x hxo hf 0;have hWne:=W_ne x 0
   cases hW:x.W 0 with
   | nil=>exact absurd hW hWne
   | cons w r =>
    have hw0:w≠[]:=by
     rintro rfl;exact hw [] (by rw [hW];simp) (by decide +kernel)
    cases r with
    | nil=>exact hw0
    | cons v r=>rw [Z5a _ (by simp)];simp
  have hxs:xsT (x.row 0)=Zha (x.W 0)++[32]:=by
   unfold xsT;rw [if_neg h0,hpr]
  rcases hk with rfl | rfl
  ·simp [pW,sT,hxs,hpr,Zha]
  ·simp [pW,sT,hxs,hpr,Zha,hne]
theorem Z09 {b:List ASt} (h:∀ s∈b,Zyf s=true∧∀ n∈s.x,n.num≤9223372036854775807):Zha (b.flatMap pW)=Zha (b.map sT):=by
 have e:b.map sT=(b.map pW).map Zha:=by
  rw [List.map_map];exact List.map_congr_left fun s hs=>(pW_join (h s hs).1 (h s hs).2).symm
 rw [e,Zcm _ (by
  intro ws hw;obtain ⟨s,_,rfl⟩:=List.mem_map.1 hw
  exact pW_ne s),List.flatMap_def]
theorem pW_len (s:ASt):(pW s).length≤6:=by
 unfold pW
 split
 ·simp
 ·split<;>simp
theorem Zro:∀ b:List ASt,(b.flatMap pW).length≤6 * b.length
 | []=>Nat.zero_le _
 | s::r=>by
  have:=Zro r;have:=pW_len s;simp only [List.flatMap_cons,List.length_append,List.length_cons];omega
theorem Zwd (w:List UInt8):(V.str w).cells.length=1:=rfl
theorem nem {o:Nat} (h:o=30∨o=40∨o=48):(o=1 ↔ False)∧(o=6 ↔ False)∧(o=29 ↔ False)∧(o=39 ↔ False)∧(o=47 ↔ False):=by
 rcases h with rfl | rfl | rfl<;>decide
theorem flatF (a:ASt) (b:List ASt) (k:Nat) (h:b[k]? = some a):(b.take (k+1)).flatMap pW=(b.take k).flatMap pW++pW a:=by
 rw [List.take_add_one,h];simp
theorem Zih (G:Nat→V) (hE:GExp G) (c c1:Col) (s:Sl AM) (hs:s.l.length<1000000) (hb:∀ a∈s.l,AmP a) (hcost:Z4j (s.l.map AM.v)<1000000) :
  Spec Tryz.prog G 21 [.agg [Zd c 3 (Z6 c1) s]] Zl (fun v _=>v=encPr (printA (s.l.map AM.v))):=by
 have hG:=hE.ok;refine Zo 0 52 [.tmp 2,.tmp 3] Tryz.func21 fun X=>?_
 have hP:printA (s.l.map AM.v)=if Zab (s.l.map AM.v)=0 then (Zha ((s.l.map AM.v).map sT),0) else ([],2):=rfl
 generalize printA (s.l.map AM.v)=res at hP ⊢;have hck:=fun c=>Zge G hE c c1.ent s hs fun a ha=>⟨(hb a ha).n,by have:=(hb a ha).l;omega,(hb a ha).x⟩;have hok := @Zci (s.l.map AM.v)
 have hnum:∀ t∈s.l.map AM.v,∀ n∈t.x,n.num≤9223372036854775807:=by
  intro t ht n hn;obtain ⟨a,ha,rfl⟩:=List.mem_map.1 ht;exact (hb a ha).m n hn
 have hlen:=fun h=>Z3q (b:=s.l.map AM.v) h hnum;have h02:=Zel (s.l.map AM.v);generalize Zab (s.l.map AM.v)=ck at hP hck hok hlen h02;refine Z1 ?_;intro g1;refine Z1 ?_;refine Znf @Zw hG ?_ (s:=(hck _))
 rcases h02 with rfl | rfl
 rotate_left
 ·refine Zs ?_
  refine Z ?_
  rw [hP]<;>rfl
 refine Zs ?_;refine Z0 ?_;obtain ⟨hl5,hall⟩:=hok rfl;have hjl:=hlen rfl;rw [List.length_map] at hl5;have hpj:=Z09 fun t ht=>⟨hall t ht,hnum t ht⟩;rw [if_pos rfl,← hpj] at hP;rw [← hpj] at hjl;refine Z1 ?_;refine Z1 ?_;refine AW.block ?_
 refine Zua s.l.length (fun k (x:(Nat × Nat) × List (List UInt8))=>st [(4,grown x.1.2 x.1.1 1 x.2),(13,Zd c 3 (Z6 c1) s),(14,.int .i64 s.l.length),(15,.int .i64 k)] [(x.1.2,Zjb x.1.1 V.str x.2)])
  (fun k x=>(x.1.2=30∨x.1.2=40∨x.1.2=48)∧x.2=((s.l.map AM.v).take k).flatMap pW) 0 ((0,30),[]) (Nat.zero_le _) ⟨by decide,rfl⟩
  (Zb zp zp) ?_
 rintro k ⟨⟨gx,o⟩,l⟩ hk ⟨ho,hR⟩ L3 hL3;simp only at ho hR;obtain ⟨m1,m6,m29,m39,m47⟩:=nem ho;refine Z1 ?_;refine Zy ?_;refine Za rfl (fun h16=>?_) (fun h16=>?_);rotate_left
 ·have hk1:k=s.l.length:=by have:=zN h16;omega
  refine Z0 ?_
  have hR:l=(s.l.map AM.v).flatMap pW:=by rw [hR,hk1,← List.length_map (f:=AM.v),List.take_length]
  rw [← hR] at hjl hP;refine AW.weak (Z2 (fun x=>x==o) (l:=[(4,Zd .new 1 V.str (Zea l))]) (m:=[]) ?_ trivial) ?_
  ·refine Zs ?_
   exact Zyb (by simp) zp Zwd
  have hll:l.length≤6 * s.l.length:=by
   rw [hR];have:=Zro (s.l.map AM.v);rwa [List.length_map] at this
  refine Z1 ?_;refine CallA.pure hG (by kernel_rfl) ?_
  cases l with
  | nil =>
   refine Zs ?_;refine (Z33 G).mono ?_;rintro _ _ rfl;refine Zs ?_;refine Z ?_
   rw [hP]<;>rfl
  | cons w r =>
   have hrc:(Zd .new 1 V.str (Zea (w::r))).recol Col.ent=Zd (Col.ent .new) 1 V.str (.mk false (w::r)):=Z1b _ _ _ (fun _=>rfl) _;refine Zsf hrc ?_;refine (Zuw G _ (w::r) (by simp) (by omega) (by omega)).mono ?_;rintro _ _ rfl;refine Zs ?_;refine Z ?_
   rw [hP]<;>rfl
 have hk1:k<s.l.length:=zL h16;have hg:=List.getElem?_eq_getElem hk1;have hba:=hb _ (List.getElem_mem hk1);have hsta:=hall _ (List.mem_map_of_mem (f:=AM.v) (List.getElem_mem hk1));have hnx:=flatF (s.l[k]).v (s.l.map AM.v) k (by rw [List.getElem?_map,hg]<;>rfl);generalize s.l[k]=a at hg hba hsta hnx;refine Z0 ?_
 refine Z9 (fun (x:(Nat × Nat) × List (List UInt8))=>st [(4,grown x.1.2 x.1.1 1 x.2),(13,Zd c 3 (Z6 c1) s),(14,.int .i64 s.l.length),(15,.int .i64 k)] [(x.1.2,Zjb x.1.1 V.str x.2)])
  (fun x=>(x.1.2=30∨x.1.2=40∨x.1.2=48)∧x.2=((s.l.map AM.v).take (k+1)).flatMap pW) (fun K5 hK5=>?_) ?_
 rotate_left
 ·rintro ⟨⟨g2,o2⟩,l2⟩ ⟨ho2,hR2⟩
  refine Z1 ?_;exact hL3 _ ⟨hk1,((g2,o2),l2),⟨ho2,hR2⟩,Zb zw zp⟩
 refine Z1f (zi hg @Zpa) ?_;intro g6;refine Z1f (zi m1 (zi m6 (zi m29 (zi m39 m47)))) ?_;refine CallA.pure hG (by kernel_rfl) ?_;refine Zsf @Z4 ?_;refine (Zqy G hE _ a.x hba.l hba.x hba.m).mono ?_;rintro _ _ ⟨r,rfl,hr⟩;obtain rfl:=Zoba hr
 have hpw:pW a.v=if a.kind=1 then [a.name,[58,61],(prP a.x.l).1,[59]]
  else if (prP a.x.l).1=[] then [[101,109,105,116],a.name,[40],[41],[59]] else [[101,109,105,116],a.name,[40],(prP a.x.l).1,[41],[59]]:=rfl
 generalize prP a.x.l=r at hpw;obtain ⟨t,e⟩:=r;simp only at hpw;refine Zsf @encPr.eq_1 ?_;refine AW.block ?_
 by_cases h1:a.kind=1
 ·rw [if_pos h1] at hpw
  have q1:(a.kind==1)=true:=by simpa using h1
  refine Z1f (zi q1 (zi m1 (zi m6 (zi m29 (zi m39 m47))))) ?_;refine Z1f (zi m1 (zi m6 (zi m29 (zi m39 m47)))) ?_;intro g39;refine Z7e (f:=V.str) (l:=l) (l2:=[a.name,[58,61],t,[59]]) (o:=o) (g:=gx) Zwd rfl rfl rfl (zpf (zi m1 (zi m6 (zi m29 (zi m39 m47))))) (Zda (by omega) (by rw [hR];have:=Zro ((s.l.map AM.v).take k);rw [List.length_take] at this;show _+4<_;omega)) fun o2 g2 ho2=>?_
  have ho3:o2=30∨o2=40∨o2=48:=by
   rcases ho2 with h | h
   ·rw [h];exact ho
   ·first | exact .inl h | exact .inr (.inl h) | exact .inr (.inr h)
  obtain ⟨n1,n6,n29,n39,n47⟩:=nem ho3;refine Zsf (zi n1 (zi n6 (zi n29 (zi n39 n47)))) ?_;refine hK5 _ ((g2,o2),l++[a.name,[58,61],t,[59]]) ⟨ho3,?_⟩ (Zb zp (zpf (zi n1 (zi n6 (zi n29 (zi n39 n47))))))
  show l++[a.name,[58,61],t,[59]]=_
  rw [hnx,hR,hpw]
 rw [if_neg h1] at hpw
 have q1:(a.kind==1)=false:=by simpa using h1
 refine Z1f (zi q1 (zi m1 (zi m6 (zi m29 (zi m39 m47))))) ?_;refine Zta rfl ?_
 by_cases h2:t=[]
 ·rw [if_pos h2] at hpw
  subst h2;refine Z1 ?_;refine Z1f (zi m1 (zi m6 (zi m29 (zi m39 m47)))) ?_;intro g47;refine Z7e (f:=V.str) (l:=l) (l2:=[[101,109,105,116],a.name,[40],[41],[59]]) (o:=o) (g:=gx) Zwd rfl rfl rfl (zpf (zi m1 (zi m6 (zi m29 (zi m39 m47))))) (Zda (by omega) (by rw [hR];have:=Zro ((s.l.map AM.v).take k);rw [List.length_take] at this;show _+5<_;omega)) fun o2 g2 ho2=>?_
  have ho3:o2=30∨o2=40∨o2=48:=by
   rcases ho2 with h | h
   ·rw [h];exact ho
   ·first | exact .inl h | exact .inr (.inl h) | exact .inr (.inr h)
  obtain ⟨n1,n6,n29,n39,n47⟩:=nem ho3;refine Zsf (zi n1 (zi n6 (zi n29 (zi n39 n47)))) ?_;refine hK5 _ ((g2,o2),l++[[101,109,105,116],a.name,[40],[41],[59]]) ⟨ho3,?_⟩ (Zb zp (zpf (zi n1 (zi n6 (zi n29 (zi n39 n47))))))
  show l++[[101,109,105,116],a.name,[40],[41],[59]]=_
  rw [hnx,hR,hpw]
 ·rw [if_neg h2] at hpw
  have q2:(t==[])=false:=by simpa using h2
  refine Z1f q2 ?_;refine Z1f (zi m1 (zi m6 (zi m29 (zi m39 m47)))) ?_;intro g29;refine Z7e (f:=V.str) (l:=l) (l2:=[[101,109,105,116],a.name,[40],t,[41],[59]]) (o:=o) (g:=gx) Zwd rfl rfl rfl (zpf (zi m1 (zi m6 (zi m29 (zi m39 m47))))) (Zda (by omega) (by rw [hR];have:=Zro ((s.l.map AM.v).take k);rw [List.length_take] at this;show _+6<_;omega)) fun o2 g2 ho2=>?_
  have ho3:o2=30∨o2=40∨o2=48:=by
   rcases ho2 with h | h
   ·rw [h];exact ho
   ·first | exact .inl h | exact .inr (.inl h) | exact .inr (.inr h)
  obtain ⟨n1,n6,n29,n39,n47⟩:=nem ho3;refine Zsf (zi n1 (zi n6 (zi n29 (zi n39 n47)))) ?_;refine hK5 _ ((g2,o2),l++[[101,109,105,116],a.name,[40],t,[41],[59]]) ⟨ho3,?_⟩ (Zb zp (zpf (zi n1 (zi n6 (zi n29 (zi n39 n47))))))
  show l++[[101,109,105,116],a.name,[40],t,[41],[59]]=_
  rw [hnx,hR,hpw]
end Go.Hs
end

section
namespace Go.Hs
open Go.Proofs
set_option maxRecDepth 10000
theorem Zkl (G:Nat→V) (hG:GOk G) (c:Col) (t:List UInt8) (s:Sl (List UInt8)) (hs:s.l.length<1000000) :
  Spec Tryz.prog G 48 [.str t,Zd c 1 V.str s] Zl (fun v _=>v = .bool (s.l.contains t)):=by
 refine Zo 0 18 [.tmp 4] Tryz.func48 fun X=>?_;refine Z1 ?_;refine Z1 ?_;refine AW.block ?_
 refine Zua s.l.length (fun k (_:Unit)=>st [(0,.str t),(1,Zd c 1 V.str s),(5,.int .i64 k)] []) (fun k _=>(s.l.take k).contains t=false) 0 () (Nat.zero_le _) rfl
  (Zb zp zp) ?_
 intro k _ hk hR L2 hL2;refine Z1 ?_;refine Za rfl (fun h4=>?_) (fun h4=>?_)
 ·have hk1:k<s.l.length:=by simpa using h4
  have hg:=List.getElem?_eq_getElem hk1
  have htk:s.l.take (k+1)=s.l.take k++[s.l[k]]:=by rw [List.take_succ_eq_append_getElem hk1]
  have hmem:=List.getElem_mem hk1;generalize s.l[k]=x at hg htk hmem;refine Z1f hg ?_;refine Za rfl (fun h6=>?_) (fun h6=>?_)
  ·have h6:x=t:=by simpa using h6
   refine Z ?_
   have:s.l.contains t=true:=by rw [← h6];simpa using hmem
   rw [this]
  ·have h6:¬ x=t:=by simpa using h6
   refine Z1 ?_;refine hL2 _ ⟨hk1,(),?_,Zb zw zp⟩;rw [htk];simp only [List.contains_eq_mem,decide_eq_false_iff_not] at hR ⊢;intro hm
   rcases List.mem_append.1 hm with h | h
   ·exact hR h
   ·exact h6 ((List.mem_singleton.1 h).symm)
 ·have hk1:k=s.l.length:=by simp at h4;omega
  refine Z ?_;rw [hk1,List.take_length] at hR;rw [hR]
end Go.Hs
end

section
namespace Go.Hs
open Go.Proofs
set_option maxRecDepth 10000
def encTy (r:Int × Int):V := .tuple [.int .i64 r.1,.int .i64 r.2]
theorem ofTP_e {names:List (List UInt8)} {l:List XN} (h:(Z3l names l).2.2≠0):(Z3l names l).1=0:=by
 unfold Z3l at h ⊢
 split
 ·rfl
 ·rename_i h1
  rw [if_neg h1] at h;exact absurd rfl h
theorem Zuv {s:ASt} (h:Zyf s=true):s.kind=1∨s.kind=2:=by
 simp only [Zyf,Bool.and_eq_true,Bool.or_eq_true,beq_iff_eq] at h;exact h.1.1
theorem Z9z (G:Nat→V) (hG:GOk G) (c c1 c2 c3:Col) (s:Sl AM) (vars events:Sl (List UInt8)) (hA:AmOk s.l) (hv:vars.l.length<100000) (hev:events.l.length<1000000) :
  Spec Tryz.prog G 23 [Zd c 3 (Z6 c1) s,Zd c2 1 V.str vars,Zd c3 1 V.str events] Zl (fun v _=>v=encTy (Zxf (s.l.map AM.v) vars.l events.l)):=by
 refine Zo 0 86 [.tmp 6,.tmp 7] Tryz.func23 fun X=>?_;have hs:=hA.len
 have hP:Zxf (s.l.map AM.v) vars.l events.l=if Zab (s.l.map AM.v)≠0 then (0,2) else Zfg vars.l events.l ((s.l.map AM.v).drop 0) (0:Nat):=rfl
 generalize Zxf (s.l.map AM.v) vars.l events.l=res at hP ⊢;have hck:=fun c=>Zck G hG c c1.ent s hA;have hok := @Zci (s.l.map AM.v);have h02:=Zel (s.l.map AM.v);generalize Zab (s.l.map AM.v)=ck at hP hck hok h02;refine Z1 ?_;refine Z1 ?_;refine Znf @Zw hG ?_ (s:=(hck _))
 rcases h02 with rfl | rfl
 rotate_left
 ·refine Zs ?_
  refine Z ?_
  rw [hP]<;>rfl
 refine Zs ?_;refine Z0 ?_;obtain ⟨_,hall⟩:=hok rfl;rw [if_neg (by decide)] at hP;refine Z1 ?_;intro g16;refine Z1 ?_;refine ⟨Zda (by omega) (by omega),fun g2=>?_⟩
 have e1:1+vars.l.length=(Zgl::vars.l).length:=by rw [List.length_cons];omega
 refine AW.weak (Z2 (fun o=>o==16) (l:=[(0,Zd c 3 (Z6 c1) s),(1,Zd c2 1 V.str vars),(2,Zd c3 1 V.str events),(8,Zd .new 1 V.str (.mk false (Zgl::vars.l)))]) (m:=[]) ?_ trivial) ?_
 ·refine Zs ?_
  refine ⟨Ze _,Ze _,Ze _,?_⟩;rw [e1];exact Fz.sl (f:=V.str) (l:=Zgl::vars.l) (m:=1) (g:=g2) (fz:=0) (c := .new) rfl zp Zwd
 generalize hNS:(Sl.mk false (Zgl::vars.l):Sl (List UInt8))=NS
 have hNl:NS.l=Zgl::vars.l:=by rw [← hNS]<;>rfl
 have hof:=fun c c1 (x:Sl XN) (h1:x.l.length<1000000) h2=>Z75 G hG c c1 x NS h1 h2 (by rw [hNl,List.length_cons];omega)
 have hcg:∀ x,Z3l NS.l x=Z3l (vars.l++[Zgl]) x:=by
  intro x;rw [hNl];exact Zv3 (fun t=>Zes Zgl vars.l t) x
 refine Z1 ?_;refine AW.block ?_
 refine Zua s.l.length (fun k (_:Unit)=>st [(0,Zd c 3 (Z6 c1) s),(1,Zd c2 1 V.str vars),(2,Zd c3 1 V.str events),(8,Zd .new 1 V.str NS),(9,.int .i64 k)] [])
  (fun k _=>Zfg vars.l events.l ((s.l.map AM.v).drop k) (k:Nat)=res) 0 () (Nat.zero_le _) hP.symm
  (Zb zp zp) ?_
 rintro k _ hk hR L3 hL3;refine Z1 ?_;refine Za rfl (fun h23=>?_) (fun h23=>?_);rotate_left
 ·have hk1:k=s.l.length:=by have:=zN h23;omega
  refine Z0 ?_;rw [List.drop_of_length_le (by rw [List.length_map];omega)] at hR;refine Z ?_
  rw [← hR]<;>rfl
 have hk1:k<s.l.length:=zL h23;have hg:=List.getElem?_eq_getElem hk1;have hba:=hA.row _ (List.getElem_mem hk1);have hsta:=hall _ (List.mem_map_of_mem (f:=AM.v) (List.getElem_mem hk1))
 have hgv:(s.l.map AM.v)[k]? = some (s.l[k]).v:=by rw [List.getElem?_map,hg]<;>rfl
 rw [Z2n hgv] at hR;generalize s.l[k]=a at hg hba hsta hR;have hkd:=Zuv hsta;have hst:stT vars.l events.l a.v=((if a.kind=2 then events.l.contains a.name else vars.l.contains a.name) && Z0j (vars.l++[Zgl]) a.x.l):=rfl;refine Z0 ?_;refine Zy ?_;refine AW.block ?_;refine Z9 (fun (_:Unit)=>st [(0,Zd c 3 (Z6 c1) s),(1,Zd c2 1 V.str vars),(2,Zd c3 1 V.str events),(8,Zd .new 1 V.str NS),(9,.int .i64 k)] []) (fun _=>(if a.kind=2 then events.l.contains a.name else vars.l.contains a.name)=true) (fun K6 hK6=>?_) ?_
 ·rcases hkd with hk0 | hk0
  ·have hk0:a.kind=1:=hk0
   have q1:(a.kind==1)=true:=by simpa using hk0
   have q2:(a.kind==2)=false:=by rw [hk0]<;>rfl
   rw [if_neg (by rw [hk0];decide)] at hst hK6;refine Z1f (zi hg (zi @Zpa q1)) ?_;refine Zcf @Zxl hG ?_ (s:=(Zkl G hG _ a.name vars (by omega)))
   cases q3:vars.l.contains a.name with
   | false =>
    rw [q3,Bool.false_and] at hst;rw [if_neg (by rw [hst];decide)] at hR;refine Zsf (zi q3 (zi hg (zi @Zpa q2))) ?_;refine Z ?_
    rw [← hR]<;>rfl
   | true =>
    rw [q3] at hK6;refine Zsf (zi q3 (zi hg (zi @Zpa q2))) ?_;refine Z0 ?_;exact hK6 _ () rfl (Zb zp zp)
  ·have hk0:a.kind=2:=hk0
   have q1:(a.kind==1)=false:=by rw [hk0]<;>rfl
   have q2:(a.kind==2)=true:=by simpa using hk0
   rw [if_pos hk0] at hst hK6;refine Z1f (zi hg (zi @Zpa (zi q1 q2))) ?_;refine Zcf @Zxl hG ?_ (s:=(Zkl G hG _ a.name events hev))
   cases q3:events.l.contains a.name with
   | false =>
    rw [q3,Bool.false_and] at hst;rw [if_neg (by rw [hst];decide)] at hR;refine Zsf q3 ?_;refine Z ?_
    rw [← hR]<;>rfl
   | true =>
    rw [q3] at hK6;refine Zsf q3 ?_;refine Z0 ?_;exact hK6 _ () rfl (Zb zp zp)
 intro _ hnm;rw [hnm,Bool.true_and] at hst
 have hnx:∀ (h:Z0j (vars.l++[Zgl]) a.x.l=true),Zfg vars.l events.l ((s.l.map AM.v).drop (k+1)) (k+1:Nat)=res:=fun h=>by rw [if_pos (by rw [hst];exact h)] at hR;exact hR
 have hbd:∀ (h:Z0j (vars.l++[Zgl]) a.x.l=false),((k:Int),(90:Int))=res:=fun h=>by rw [if_neg (by rw [hst,h];decide)] at hR;exact hR
 by_cases hx0:a.x.l.length=0
 ·have hxe:Z0j (vars.l++[Zgl]) a.x.l=true:=by unfold Z0j;rw [List.length_eq_zero_iff.1 hx0]<;>rfl
  have q5:decide ((a.x.l.length:Int) > 0)=false:=zF;refine Z1f (zi hg (zi @Zpa q5)) ?_;refine Z1 ?_;exact hL3 _ ⟨hk1,(),hnx hxe,Zb zw zp⟩
 have q5:decide ((a.x.l.length:Int) > 0)=true:=zT
 have hxe:Z0j (vars.l++[Zgl]) a.x.l=((Z3l NS.l a.x.l).1==1):=by
  unfold Z0j;rw [← hcg]
  cases hq:a.x.l with
  | nil=>rw [hq] at hx0;exact absurd rfl hx0
  | cons=>rfl
 refine Z1f (zi hg (zi @Zpa q5)) ?_;refine Z1f (zi hg @Zpa) ?_;refine Znf @Z4 hG ?_ (s:=(hof _ _ a.x hba.2.1 hba.2.2));have hoe := @ofTP_e NS.l a.x.l;generalize Z3l NS.l a.x.l=r at hxe hoe;obtain ⟨kd0,i0,e0⟩:=r;simp only at hxe hoe;refine Zsf @encO3.eq_1 ?_
 by_cases he:e0=0
 rotate_left
 ·have q6:(e0==0)=false:=by simpa using he
  rw [hoe he] at hxe;refine Zdc (by kernel_rfl) ?_;simp -implicitDefEqProofs only[go_sem,seval,↓reduceIte,bne,q6];refine Z ?_
  rw [← hbd hxe]<;>rfl
 have q6:(e0==0)=true:=by simpa using he
 cases q7:(kd0==1) with
 | false =>
  rw [q7] at hxe;refine Zdc (by kernel_rfl) ?_;simp -implicitDefEqProofs only[go_sem,seval,↓reduceIte,bne,q6,q7];refine Z ?_
  rw [← hbd hxe]<;>rfl
 | true =>
  rw [q7] at hxe;refine Zdc (by kernel_rfl) ?_;simp -implicitDefEqProofs only[go_sem,seval,↓reduceIte,bne,q6,q7];refine Z1 ?_;exact hL3 _ ⟨hk1,(),hnx hxe,Zb zw zp⟩
end Go.Hs
end

section
namespace Go.Hs
open Go.Proofs
set_option maxRecDepth 10000
theorem Zwz (G:Nat→V) (c:Col) (s:Sl (List UInt8)) (hs:s.l.length<1000000):InSp Tryz.prog G 42 [Zd c 1 V.str s] (Zub Zl [(5005,.dead)])
  (fun v H'=>(s = .nil∧v = .nils∧H' 5005 = .dead)∨(∃ g,v = .msl 5005 g 0 s.l.length 1∧H' 5005 = .cells .new g 0 (flat (s.l.map V.str)))):=by
 refine Zye 5000 8 [.tmp 2] Tryz.func42 rfl rfl rfl rfl fun X=>?_;simp only [Zub]
 cases s with
 | nil =>
  refine Z1 ?_;refine Zy ?_;simp only [Zd];refine Z ?_;exact .inl (by first | rfl | exact ⟨rfl,rfl,rfl⟩ | exact ⟨rfl,rfl⟩)
 | mk b l =>
  refine Z1 ?_;refine Zy ?_;have hq:(Zd c 1 V.str (.mk b l)) = .slice c b 1 (l.map V.str):=rfl;rw [hq];refine Z1 ?_;refine Z1 ?_;have hl:l.length<1000000:=hs;intro g;refine ⟨Zda (by omega) (by rw [List.length_map];omega),fun g2=>?_⟩;refine Z ?_;exact .inr ⟨g2,by rw [List.length_map],zr⟩
theorem Zfe (G:Nat→V) (hE:GExp G) (c c1 c2 c3:Col) (s:Sl AM) (vars events:Sl (List UInt8)) (hs:s.l.length<1000000) (hb:∀ a∈s.l,AmB a) (hv:vars.l.length<100000) (hev:events.l.length<1000000) :
  Spec Tryz.prog G 19 [.agg [Zd c 3 (Z6 c1) s],Zd c2 1 V.str vars,Zd c3 1 V.str events] Zl (fun v _=>v=encTy (Zxf (s.l.map AM.v) vars.l events.l)):=by
 have hG:=hE.ok;refine Zo 0 57 [.tmp 6,.tmp 7] Tryz.func19 fun X=>?_
 have hP:Zxf (s.l.map AM.v) vars.l events.l=if Zab (s.l.map AM.v)≠0 then (0,2) else Zfg vars.l events.l ((s.l.map AM.v).drop 0) (0:Nat):=rfl
 generalize Zxf (s.l.map AM.v) vars.l events.l=res at hP ⊢;have hck:=fun c=>Zge G hE c c1.ent s hs hb;have hok := @Zci (s.l.map AM.v);have h02:=Zel (s.l.map AM.v);generalize Zab (s.l.map AM.v)=ck at hP hck hok h02;refine Z1 ?_;intro g3;refine Z1 ?_;refine Znf @Zw hG ?_ (s:=(hck _))
 rcases h02 with rfl | rfl
 rotate_left
 ·refine Zs ?_
  refine Z ?_
  rw [hP]<;>rfl
 refine Zs ?_;refine Z0 ?_;obtain ⟨_,hall⟩:=hok rfl;rw [if_neg (by decide)] at hP
 have hfin:∀ (NS:Sl (List UInt8)),NS.l=vars.l++[Zgl]→∀ x,Z3l NS.l x=Z3l (vars.l++[Zgl]) x:=fun NS h x=>by rw [h]
 refine Z9 (fun (NS:Sl (List UInt8))=>st [(1,Zd c2 1 V.str vars),(2,Zd c3 1 V.str events),(3,.ptr 3 g3 0),(8,Zd .new 1 V.str NS)] [(3,.cells .new g3 0 [Zd c 3 (Z6 c1) s])]) (fun NS=>NS.l=vars.l++[Zgl]) (fun K2 hK2=>?_) ?_
 ·refine Z1 ?_
  refine CallA.inl [(5005,.dead)] (by kernel_rfl) ?_ ?_
  ·intro p hp
   rw [List.mem_singleton] at hp;subst hp;exact zp
  refine (Zwz G c2 vars (by omega)).mono ?_;rintro _ H' (⟨rfl,rfl,q⟩ | ⟨g5,rfl,q⟩)
  ·simp only [List.map_cons,List.map_nil,q]
   refine Zu ?_;intro g18;refine ⟨Zda (by omega) (by omega),fun h=>absurd h (by decide),fun _ g19=>?_⟩;refine Zs ?_;refine hK2 _ (.mk false [Zgl]) rfl (Z2 (fun o=>o==19) ?_ ?_)
   ·refine Zs ?_
    refine ⟨Ze _,Ze _,Ze _,?_⟩;exact Fz.sl (f:=V.str) (l:=[Zgl]) (m:=1) (g:=g19) (fz:=0) (c := .new) rfl zp Zwd
   ·simp only [Zp,Zz,and_true]
    exact FzO.keep rfl zp
  ·simp only [List.map_cons,List.map_nil,q]
   refine Zu ?_;intro g18
   have hcells:List.take (vars.l.length * 1) (flat (List.map V.str vars.l))++[V.str [97,114,103]]=flat ((vars.l++[Zgl]).map V.str):=by
    rw [List.take_of_length_le (by rw [Z9b Zwd];exact Nat.le_refl _),List.map_append,Zte];rfl
   have e1:vars.l.length+1=(vars.l++[Zgl]).length:=by rw [List.length_append]<;>rfl
   refine ⟨Zda (by omega) (by omega),by rw [Z9b Zwd];exact Nat.le_refl _,Nat.zero_le _,fun g19=>?_⟩;rw [hcells];refine hK2 _ (.mk false (vars.l++[Zgl])) rfl (Z2 (fun o=>o==5005) ?_ ?_)
   ·refine Zs ?_
    refine ⟨Ze _,Ze _,Ze _,?_⟩;rw [e1];exact Fz.sl (f:=V.str) (l:=vars.l++[Zgl]) (m:=1) (g:=g19) (fz:=0) (c := .new) rfl zp Zwd
   ·simp only [Zp,Zz,and_true]
    exact FzO.keep rfl zp
 intro NS hNl;have hcg:=hfin NS hNl;have hof:=fun c c1 (x:Sl XN) (h1:x.l.length<1000000) h2=>Zf9 G hE c c1 x NS h1 h2 (by rw [hNl,List.length_append];show _+1<_;omega)
 try clear hfin
 refine Zh fun K2 hK2=>?_;refine Z1 ?_;refine AW.block ?_
 refine Zua s.l.length (fun k (_:Unit)=>st [(1,Zd c2 1 V.str vars),(2,Zd c3 1 V.str events),(8,Zd .new 1 V.str NS),(21,Zd c 3 (Z6 c1) s),(22,.int .i64 s.l.length),(23,.int .i64 k)] [])
  (fun k _=>Zfg vars.l events.l ((s.l.map AM.v).drop k) (k:Nat)=res) 0 () (Nat.zero_le _) hP.symm
  (Zb zp zp) ?_
 rintro k _ hk hR L3 hL3;refine Z1 ?_;refine Zy ?_;refine Za rfl (fun h24=>?_) (fun h24=>?_);rotate_left
 ·have hk1:k=s.l.length:=by have:=zN h24;omega
  refine Z0 ?_;refine hK2 _ ?_;rw [List.drop_of_length_le (by rw [List.length_map];omega)] at hR;refine Z ?_
  rw [← hR]<;>rfl
 have hk1:k<s.l.length:=zL h24;have hg:=List.getElem?_eq_getElem hk1;have hba:=hb _ (List.getElem_mem hk1);have hsta:=hall _ (List.mem_map_of_mem (f:=AM.v) (List.getElem_mem hk1))
 have hgv:(s.l.map AM.v)[k]? = some (s.l[k]).v:=by rw [List.getElem?_map,hg]<;>rfl
 rw [Z2n hgv] at hR;generalize s.l[k]=a at hg hba hsta hR;have hkd:=Zuv hsta;have hst:stT vars.l events.l a.v=((if a.kind=2 then events.l.contains a.name else vars.l.contains a.name) && Z0j (vars.l++[Zgl]) a.x.l):=rfl;refine Z1f (zi hg @Zpa) ?_;intro g10;refine Z1 ?_
 refine Z9 (fun (NK:Sl (List UInt8))=>st [(1,Zd c2 1 V.str vars),(2,Zd c3 1 V.str events),(8,Zd .new 1 V.str NS),(9,.int .i64 k),(10,.ptr 10 g10 0),(11,Zd (if a.kind=2 then c3 else c2) 1 V.str NK),(21,Zd c 3 (Z6 c1) s),(22,.int .i64 s.l.length),(23,.int .i64 k)] [(10,.cells .new g10 0 [.int .u8 a.kind,.str a.name,Zd c1 6 Zca a.x])])
  (fun NK=>NK.l.length<1000000∧NK.l.contains a.name=(if a.kind=2 then events.l.contains a.name else vars.l.contains a.name)) (fun K6 hK6=>?_) ?_
 ·rcases hkd with hk0 | hk0
  ·have hk0:a.kind=1:=hk0
   have q2:(a.kind==2)=false:=by rw [hk0]<;>rfl
   rw [if_neg (by rw [hk0];decide),if_neg (by rw [hk0];decide)] at hK6;refine Z1f q2 ?_;refine Z0 ?_;exact hK6 _ vars ⟨by omega,rfl⟩ (Zb zp zp)
  ·have hk0:a.kind=2:=hk0
   have q2:(a.kind==2)=true:=by simpa using hk0
   rw [if_pos hk0,if_pos hk0] at hK6;refine Z1f q2 ?_;refine Z1 ?_;exact hK6 _ events ⟨hev,rfl⟩ (Zb zp zp)
 rintro NK ⟨hNK,hNKc⟩;generalize (if a.kind=2 then c3 else c2)=cK;rw [← hNKc] at hst;refine Z1 ?_
 refine Z9 (fun (kd0:Int)=>st [(1,Zd c2 1 V.str vars),(2,Zd c3 1 V.str events),(8,Zd .new 1 V.str NS),(9,.int .i64 k),(10,.ptr 10 g10 0),(11,Zd cK 1 V.str NK),(12,.int .u8 kd0),(21,Zd c 3 (Z6 c1) s),(22,.int .i64 s.l.length),(23,.int .i64 k)] [(10,.cells .new g10 0 [.int .u8 a.kind,.str a.name,Zd c1 6 Zca a.x])])
  (fun kd0=>(kd0==1)=Z0j (vars.l++[Zgl]) a.x.l) (fun K7 hK7=>?_) ?_
 ·by_cases hx0:a.x.l.length=0
  ·have hxe:Z0j (vars.l++[Zgl]) a.x.l=true:=by unfold Z0j;rw [List.length_eq_zero_iff.1 hx0]<;>rfl
   have q5:decide ((a.x.l.length:Int) > 0)=false:=zF;refine Z1f q5 ?_;refine Z0 ?_;exact hK7 _ 1 (by rw [hxe]<;>rfl) (Zb zp zp)
  have q5:decide ((a.x.l.length:Int) > 0)=true:=zT
  have hxe:Z0j (vars.l++[Zgl]) a.x.l=((Z3l NS.l a.x.l).1==1):=by
   unfold Z0j;rw [← hcg]
   cases hq:a.x.l with
   | nil=>rw [hq] at hx0;exact absurd rfl hx0
   | cons=>rfl
  refine Z1f q5 ?_;refine Z1 ?_;refine Znf @Z4 hG ?_ (s:=(hof _ _ a.x hba.l hba.x));generalize Z3l NS.l a.x.l=r at hxe;obtain ⟨kd0,i0,e0⟩:=r;refine Zsf @encO3.eq_1 ?_;exact hK7 _ kd0 hxe.symm (Zb zp zp)
 intro kd0 hkd0
 cases q6:(kd0==1) with
 | false =>
  rw [← hkd0,q6,Bool.and_false] at hst;rw [if_neg (by rw [hst];decide)] at hR;refine Zdc (by kernel_rfl) ?_;simp -implicitDefEqProofs only[go_sem,seval,↓reduceIte,bne,q6];refine Z ?_
  rw [← hR]<;>rfl
 | true =>
  rw [← hkd0,q6,Bool.and_true] at hst;refine Zdc (by kernel_rfl) ?_;simp -implicitDefEqProofs only[go_sem,seval,↓reduceIte,bne,q6];refine Zc hG ?_ (s:=(Zdj G hG _ a.name NK hNK))
  cases q7:NK.l.contains a.name with
  | false =>
   rw [q7] at hst;rw [if_neg (by rw [hst];decide)] at hR;refine Z ?_
   rw [← hR]<;>rfl
  | true =>
   rw [q7] at hst;rw [if_pos hst] at hR;refine Z1 ?_;exact hL3 _ ⟨hk1,(),hR,Zb zw zp⟩
end Go.Hs
end

section
namespace Go.Hs
open Go.Proofs
set_option maxRecDepth 10000
theorem Zmc (G:Nat→V) (hG:GOk G) (c c1:Col) (s:Sl AM) (hs:s.l.length<1000000) (hx:∀ a∈s.l,a.x.l.length<1000000) :
  Spec Tryz.prog G 16 [.agg [Zd c 3 (Z6 c1) s]] Zl (fun v _=>v=encABs .new (s.l.map AM.v)):=by
 refine Zo 0 63 [.tmp 2] Tryz.func16 fun X=>?_;refine Z1 ?_;intro g1;refine Z1 ?_;refine Z1 ?_;refine AW.block ?_
 refine Zua s.l.length (fun k (gx:Nat)=>st [(1,.ptr 1 g1 0),(3,grown 61 gx 3 ((s.l.take k).map AM.v)),(4,.int .i64 k)] [(1,.cells .new g1 0 [Zd c 3 (Z6 c1) s]),(61,Zjb gx (Zsa .new) ((s.l.take k).map AM.v))])
  (fun k _=>True) 0 0 (Nat.zero_le _) trivial
  (Zb zp zp) ?_
 intro k gx hk _ L3 hL3;refine Z1 ?_;refine Za rfl (fun h13=>?_) (fun h13=>?_);rotate_left
 ·have hk1:k=s.l.length:=by have:=zN h13;omega
  refine Z0 ?_;rw [hk1,List.take_length];refine AW.weak (Z2 (fun o=>o==61) (l:=[(3,encABs .new (s.l.map AM.v))]) (m:=[]) ?_ trivial) ?_
  ·refine Zs ?_
   exact Zyb rfl zp (Zxa _)
  exact Zr
 have hk1:k<s.l.length:=zL h13;have hg:=List.getElem?_eq_getElem hk1;have hxa:=hx _ (List.getElem_mem hk1)
 have htk:(s.l.take (k+1)).map AM.v=(s.l.take k).map AM.v++[(s.l[k]).v]:=by rw [List.take_succ_eq_append_getElem hk1,List.map_append]<;>rfl
 have hlt:((s.l.take k).map AM.v).length=k:=by rw [List.length_map,List.length_take];omega
 generalize s.l[k]=a at hg hxa htk;generalize (s.l.take k).map AM.v=acc at htk hlt ⊢;refine Z1f (zi hg @Zpa) ?_;intro g5;refine Z1 ?_;intro g6;refine Z1 ?_;refine AW.block ?_
 refine Zua a.x.l.length (fun j (gy:Nat)=>st [(1,.ptr 1 g1 0),(3,grown 61 gx 3 acc),(4,.int .i64 k),(5,.ptr 5 g5 0),(6,.ptr 6 g6 0),(7,.int .i64 j)]
   [(1,.cells .new g1 0 [Zd c 3 (Z6 c1) s]),(61,Zjb gx (Zsa .new) acc),(5,.cells .new g5 0 [.int .u8 a.kind,.str a.name,Zd c1 6 Zca a.x]),(6,.cells .new g6 0 [.int .u8 a.kind,.str a.name,grown 56 gy 6 (a.x.l.take j)]),(56,Zjb gy Zca (a.x.l.take j))])
  (fun j _=>True) 0 0 (Nat.zero_le _) trivial
  (Zb zp (by simp -implicitDefEqProofs only[go_sem,seval,↓reduceIte];exact ⟨rfl,rfl⟩)) ?_
 intro j gy hj _ L7 hL7;refine Z1 ?_;refine Za rfl (fun h31=>?_) (fun h31=>?_);rotate_left
 ·have hj1:j=a.x.l.length:=by have:=zN h31;omega
  refine Z0 ?_;rw [hj1,List.take_length];refine AW.weak (Z2 (fun o=>o==56) (l:=[(1,.ptr 1 g1 0),(3,grown 61 gx 3 acc),(4,.int .i64 k),(6,.ptr 6 g6 0)]) (m:=[(1,.cells .new g1 0 [Zd c 3 (Z6 c1) s]),(61,Zjb gx (Zsa .new) acc),(6,.cells .new g6 0 [.int .u8 a.kind,.str a.name,Zd .new 6 Zca (Zea a.x.l)])]) ?_ ?_) ?_
  ·refine Zs ?_
   exact ⟨Ze _,Ze _,Ze _,Ze _⟩
  ·simp only [Zp,Zz,and_true]
   exact ⟨FzO.keep rfl zp,FzO.keep rfl zp,Zol (c := .new) (fz:=0) (cs:=[.int .u8 a.kind,.str a.name,grown 56 gy 6 a.x.l]) rfl zp ⟨Ze _,Ze _,Zyb rfl zp Z5c,trivial⟩⟩
  refine Z1 ?_;intro g60;refine Zpb (f:=Zsa .new) (l:=acc) (l2:=[a.v]) (g:=gx) (Zxa _) rfl rfl rfl zp (Zda (by omega) (by simp;omega)) fun g2=>?_;refine Zs ?_;refine Z1 ?_;refine hL3 _ ⟨hk1,g2,trivial,Zb (by simp -implicitDefEqProofs only[go_sem,seval,↓reduceIte];exact ⟨by rw [htk],congrArg _ (w64 (by omega) (by omega))⟩) (by simp -implicitDefEqProofs only[go_sem,seval,↓reduceIte];rw [htk];try rfl)⟩
 have hj1:j<a.x.l.length:=zL h31;have hgj:=List.getElem?_eq_getElem hj1
 have htj:a.x.l.take (j+1)=a.x.l.take j++[a.x.l[j]]:=by rw [List.take_succ_eq_append_getElem hj1]
 have hlj:(a.x.l.take j).length=j:=by rw [List.length_take];omega
 generalize a.x.l[j]=n at hgj htj;generalize a.x.l.take j=ns at htj hlj ⊢;refine Z1f (zi hgj @Zt) ?_;intro g8;refine Z1 ?_;intro g55;refine Zpb (f:=Zca) (l:=ns) (l2:=[n]) (g:=gy) Z5c rfl rfl rfl zp (Zda (by omega) (by simp;omega)) fun g2=>?_;refine Zs ?_;refine Z1 ?_;refine hL7 _ ⟨hj1,g2,trivial,Zb zw (by simp -implicitDefEqProofs only[go_sem,seval,↓reduceIte];rw [htj];try exact ⟨rfl,rfl⟩)⟩
end Go.Hs
end

section
namespace Go.Hs
open Go.Proofs
set_option maxRecDepth 10000
def Zx8 (l:List (List UInt8)):Bool:=l.all (fun n=>decide (n.length≤100)) && decide (l.length≤20)
def fewS (a:AM):Bool:=decide (a.name.length≤100∧a.x.l.length≤40) && a.x.l.all (fun n=>decide (n.name.length≤100))
def Zy8 (l:List AM):Bool:=decide (l.length≤20) && l.all fewS
theorem Zud (G:Nat→V) (hG:GOk G) (c:Col) (s:Sl (List UInt8)) (hs:s.l.length≤9223372036854775807) :
  Spec Tryz.prog G 18 [Zd c 1 V.str s] Zl (fun v _=>v = .bool (Zx8 s.l)):=by
 refine Zo 0 19 [.tmp 2] Tryz.func18 fun X=>?_;have hP:Zx8 s.l=(s.l.all (fun n=>decide (n.length≤100)) && decide (s.l.length≤20)):=rfl;generalize Zx8 s.l=res at hP ⊢;refine Z1 ?_;refine Z1 ?_;refine AW.block ?_
 refine Zua s.l.length (fun k (_:Unit)=>st [(0,Zd c 1 V.str s),(3,.int .i64 k)] []) (fun k _=>(s.l.take k).all (fun n=>decide (n.length≤100))=true) 0 () (Nat.zero_le _) rfl
  (Zb zp zp) ?_
 intro k _ hk hR L3 hL3;refine Z1 ?_;refine Za rfl (fun h7=>?_) (fun h7=>?_);rotate_left
 ·have hk1:k=s.l.length:=by have:=zN h7;omega
  refine Z0 ?_;rw [hk1,List.take_length] at hR;rw [hR,Bool.true_and] at hP;refine Z ?_;rw [hP];refine congrArg V.bool ?_;rw [Bool.eq_iff_iff,decide_eq_true_iff,decide_eq_true_iff];omega
 have hk1:k<s.l.length:=zL h7;have hg:=List.getElem?_eq_getElem hk1;generalize s.l[k]=x at hg;refine Z1f hg ?_
 by_cases hx:x.length > 100
 ·have q3:decide (((x.length:Nat):Int) > 100)=true:=zT
  rw [Zhi _ hg (by simpa using hx),Bool.false_and] at hP;rw [q3];refine Z ?_;rw [hP]
 have q3:decide (((x.length:Nat):Int) > 100)=false:=zF;rw [q3];refine Z1 ?_;exact hL3 _ ⟨hk1,(),Zjh _ hg hR (by simpa using hx),Zb zw zp⟩
theorem Zmj (G:Nat→V) (hG:GOk G) (c c1:Col) (s:Sl AM) :
  Spec Tryz.prog G 20 [.agg [Zd c 3 (Z6 c1) s]] Zl (fun v _=>v = .bool (Zy8 s.l)):=by
 refine Zo 0 50 [.tmp 2] Tryz.func20 fun X=>?_;have hP:Zy8 s.l=(decide (s.l.length≤20) && s.l.all fewS):=rfl;generalize Zy8 s.l=res at hP ⊢;refine Z1 ?_;intro g1;refine Zy ?_
 by_cases h1:s.l.length > 20
 ·have q1:decide (((s.l.length:Nat):Int) > 20)=true:=zT
  rw [decide_eq_false (by omega),Bool.false_and] at hP;refine Zf q1 ?_;rw [hP]
 have q1:decide (((s.l.length:Nat):Int) > 20)=false:=zF;rw [decide_eq_true (by omega),Bool.true_and] at hP;refine Z1f q1 ?_;refine Z1 ?_;refine AW.block ?_
 refine Zua s.l.length (fun k (_:Unit)=>st [(1,.ptr 1 g1 0),(3,.int .i64 k)] [(1,.cells .new g1 0 [Zd c 3 (Z6 c1) s])]) (fun k _=>(s.l.take k).all fewS=true) 0 () (Nat.zero_le _) rfl
  (Zb zp zp) ?_
 intro k _ hk hR L3 hL3;refine Z1 ?_;refine Za rfl (fun h14=>?_) (fun h14=>?_);rotate_left
 ·have hk1:k=s.l.length:=by have:=zN h14;omega
  refine Z0 ?_;rw [hk1,List.take_length] at hR;refine Z ?_;rw [hP,hR]
 have hk1:k<s.l.length:=zL h14;have hg:=List.getElem?_eq_getElem hk1;generalize s.l[k]=a at hg;refine Z0 ?_;refine Zy ?_;refine AW.block ?_;have hfs:fewS a=(decide (a.name.length≤100∧a.x.l.length≤40) && a.x.l.all (fun n=>decide (n.name.length≤100))):=rfl;refine Z1f (zi hg @Zpa) ?_;intro g4;refine Zy ?_
 by_cases h2:a.name.length > 100
 ·have q2:decide (((a.name.length:Nat):Int) > 100)=true:=zT
  rw [decide_eq_false (by omega),Bool.false_and] at hfs;rw [Zhi _ hg hfs] at hP;refine Zf q2 ?_;rw [hP]
 have q2:decide (((a.name.length:Nat):Int) > 100)=false:=zF
 by_cases h3:a.x.l.length > 40
 ·have q3:decide (((a.x.l.length:Nat):Int) > 40)=true:=zT
  rw [decide_eq_false (by omega),Bool.false_and] at hfs;rw [Zhi _ hg hfs] at hP;refine Zf (zi q2 q3) ?_;rw [hP]
 have q3:decide (((a.x.l.length:Nat):Int) > 40)=false:=zF;rw [decide_eq_true (by omega),Bool.true_and] at hfs;refine Z1f (zi q2 q3) ?_;refine Z1 ?_;refine AW.block ?_
 refine Zua a.x.l.length (fun j (_:Unit)=>st [(1,.ptr 1 g1 0),(3,.int .i64 k),(4,.ptr 4 g4 0),(5,.int .i64 j)] [(1,.cells .new g1 0 [Zd c 3 (Z6 c1) s]),(4,.cells .new g4 0 [.int .u8 a.kind,.str a.name,Zd c1 6 Zca a.x])])
  (fun j _=>(a.x.l.take j).all (fun n=>decide (n.name.length≤100))=true) 0 () (Nat.zero_le _) rfl
  (Zb zp zp) ?_
 intro j _ hj hR2 L7 hL7;refine Z1 ?_;refine Za rfl (fun h38=>?_) (fun h38=>?_);rotate_left
 ·have hj1:j=a.x.l.length:=by have:=zN h38;omega
  refine Z0 ?_;rw [hj1,List.take_length] at hR2;refine Z1 ?_;exact hL3 _ ⟨hk1,(),Zjh _ hg hR (by rw [hfs];exact hR2),Zb zw zp⟩
 have hj1:j<a.x.l.length:=zL h38;have hgj:=List.getElem?_eq_getElem hj1;generalize a.x.l[j]=n at hgj;refine Z1f (zi hgj @Zt) ?_
 by_cases hx:n.name.length > 100
 ·have q4:decide (((n.name.length:Nat):Int) > 100)=true:=zT
  rw [Zhi _ hgj (by simpa using hx)] at hfs;rw [Zhi _ hg hfs] at hP;rw [q4];refine Z ?_;rw [hP]
 have q4:decide (((n.name.length:Nat):Int) > 100)=false:=zF;rw [q4];refine Z1 ?_;exact hL7 _ ⟨hj1,(),Zjh _ hgj hR2 (by simpa using hx),Zb zw zp⟩
theorem Zcl {l:List AM} (h:Zy8 l=true):l.length≤20∧∀ a∈l,a.name.length≤100∧a.x.l.length≤40∧∀ n∈a.x.l,n.name.length≤100:=by
 simp only [Zy8,Bool.and_eq_true,decide_eq_true_eq,List.all_eq_true] at h;refine ⟨h.1,fun a ha=>?_⟩;have:=h.2 a ha;simp only [fewS,Bool.and_eq_true,decide_eq_true_eq,List.all_eq_true] at this;exact ⟨this.1.1,this.1.2,this.2⟩
theorem Zbl {l:List (List UInt8)} (h:Zx8 l=true):l.length≤20∧∀ n∈l,n.length≤100:=by
 simp only [Zx8,Bool.and_eq_true,decide_eq_true_eq,List.all_eq_true] at h;exact ⟨h.2,h.1⟩
end Go.Hs
end

section
namespace Go.Hs
open Go.Proofs
set_option maxRecDepth 10000
def toAM (s:ASt):AM:=⟨s.kind,s.name,Zea s.x⟩
theorem toAM_v (s:ASt):(toAM s).v=s:=by
 show ASt.mk s.kind s.name (Zea s.x).l=s
 rw [Zza]
def amS (l:List ASt):Sl AM:=Zea (l.map toAM)
theorem Zug (l:List ASt):(amS l).l=l.map toAM:=Zza _
theorem Zqh (l:List ASt):(amS l).l.map AM.v=l:=by
 rw [Zug,List.map_map];exact (List.map_congr_left fun s _=>toAM_v s).trans (List.map_id _)
theorem Zob (c:Col) (l:List ASt):Zd c 3 (Zsa c) (Zea l)=Zd c 3 (Z6 c) (amS l):=by
 cases l with
 | nil=>rfl
 | cons s r =>
  show V.slice c false 3 ((s::r).map (Zsa c))=V.slice c false 3 (((s::r).map toAM).map (Z6 c))
  rw [List.map_map]<;>rfl
theorem Zgf (F:Col→Col) (c:Col) (l:List ASt):(Zd c 3 (Zsa c) (Zea l)).recol F=Zd (F c) 3 (Zsa (F c)) (Zea l):=Z1b F c 3 (Zs1 F c) _
structure BOk (b:List ASt):Prop where
 n:∀ s∈b,s.name.length<100000
 l:∀ s∈b,s.x.length<1000
 x:∀ s∈b,∀ n∈s.x,n.name.length<100000
 m:∀ s∈b,∀ n∈s.x,n.num≤9223372036854775807
 c:Z4j b≤65536
 k:b.length<100000
theorem BOk.amp {l:List ASt} (h:BOk l):∀ a∈(amS l).l,AmP a:=by
 intro a ha;rw [Zug] at ha;obtain ⟨s,hs,rfl⟩:=List.mem_map.1 ha;exact ⟨h.n s hs,by show (Zea s.x).l.length<_;rw [Zza];exact h.l s hs,by show ∀ n∈(Zea s.x).l,_;rw [Zza];exact h.x s hs,by show ∀ n∈(Zea s.x).l,_;rw [Zza];exact h.m s hs⟩
theorem BOk.amb {l:List ASt} (h:BOk l):∀ a∈(amS l).l,AmB a:=fun a ha=>⟨(h.amp a ha).n,by have:=(h.amp a ha).l;omega,(h.amp a ha).x⟩
theorem BOk.amok {l:List ASt} (h:BOk l):AmOk (amS l).l:=⟨by rw [Zug,List.length_map];have:=h.k;omega,fun a ha=>⟨(h.amb a ha).n,(h.amb a ha).l,(h.amb a ha).x⟩⟩
theorem BOk.len {l:List ASt} (h:BOk l):(amS l).l.length<1000000:=h.amok.len
theorem Ze2 {n:Int} {ts:List (List UInt8)} {x:X} (h:Gr n ts x):∀ k:Int,∀ m∈x.row k,m.name.length≤64:=by
 induction h with
 | num _ _=>intro k m hm;simp only [X.row,List.mem_singleton] at hm;subst hm;exact Nat.zero_le _
 | name h1=>intro k m hm;simp only [X.row,List.mem_singleton] at hm;subst hm;exact (Zyd (by rw [h1];decide)).2.2
 | tr=>intro k m hm;simp only [X.row,List.mem_singleton] at hm;subst hm;exact Nat.zero_le _
 | fa=>intro k m hm;simp only [X.row,List.mem_singleton] at hm;subst hm;exact Nat.zero_le _
 | neg _ _ ih =>
  intro k m hm;simp only [X.row,List.mem_append,List.mem_singleton] at hm
  rcases hm with hm | rfl
  ·exact ih k m hm
  ·exact Nat.zero_le _
 | not _ _ ih =>
  intro k m hm;simp only [X.row,List.mem_append,List.mem_singleton] at hm
  rcases hm with hm | rfl
  ·exact ih k m hm
  ·exact Nat.zero_le _
 | par _ ih=>exact ih
 | bin _ _ _ _ _ i1 i2 =>
  intro k m hm;simp only [X.row,List.mem_append,List.mem_singleton] at hm
  rcases hm with (hm | hm) | rfl
  ·exact i1 k m hm
  ·exact i2 _ m hm
  ·exact Nat.zero_le _
 | ite _ _ _ i1 i2 i3 =>
  intro k m hm;simp only [X.row,List.mem_append,List.mem_singleton] at hm
  rcases hm with ((hm | hm) | hm) | rfl
  ·exact i1 k m hm
  ·exact i2 _ m hm
  ·exact i3 _ m hm
  ·exact Nat.zero_le _
theorem GB.ok {ws:List (List UInt8)} {b:List ASt} (h:GB ws b) (hw:ws.length≤900):BOk b:=by
 have hc:=h.cost;have hl:=h.len
 have key:(∀ s∈b,s.name.length≤64)∧(∀ s∈b,s.x.length≤ws.length)∧(∀ s∈b,∀ n∈s.x,n.name.length≤64):=by
  try clear hc hl hw
  induction h with
  | nil=>exact ⟨fun s hs=>(by cases hs),fun s hs=>(by cases hs),fun s hs=>(by cases hs)⟩
  | asg n g d _ ih =>
   obtain ⟨i1,i2,i3⟩:=ih;have hs0:=g.size;simp only [List.length_cons,List.length_append];refine ⟨fun s hs=>?_,fun s hs=>?_,fun s hs=>?_⟩
   ·rcases List.mem_cons.1 hs with rfl | hs
    ·exact (Zyd (by rw [n];decide)).2.2
    ·exact i1 s hs
   ·rcases List.mem_cons.1 hs with rfl | hs
    ·show (X.row _ _).length≤_;rw [X.row_len];omega
    ·have:=i2 s hs;omega
   ·rcases List.mem_cons.1 hs with rfl | hs
    ·exact Ze2 g 0
    ·exact i3 s hs
  | bare n _ ih =>
   obtain ⟨i1,i2,i3⟩:=ih;simp only [List.length_cons];refine ⟨fun s hs=>?_,fun s hs=>?_,fun s hs=>?_⟩
   ·rcases List.mem_cons.1 hs with rfl | hs
    ·exact (Zyd (by rw [n];decide)).2.2
    ·exact i1 s hs
   ·rcases List.mem_cons.1 hs with rfl | hs
    ·exact Nat.zero_le _
    ·have:=i2 s hs;omega
   ·rcases List.mem_cons.1 hs with rfl | hs
    ·intro n hn;cases hn
    ·exact i3 s hs
  | emit n g d _ ih =>
   obtain ⟨i1,i2,i3⟩:=ih;have hs0:=g.size;simp only [List.length_cons,List.length_append];refine ⟨fun s hs=>?_,fun s hs=>?_,fun s hs=>?_⟩
   ·rcases List.mem_cons.1 hs with rfl | hs
    ·exact (Zyd (by rw [n];decide)).2.2
    ·exact i1 s hs
   ·rcases List.mem_cons.1 hs with rfl | hs
    ·show (X.row _ _).length≤_;rw [X.row_len];omega
    ·have:=i2 s hs;omega
   ·rcases List.mem_cons.1 hs with rfl | hs
    ·exact Ze2 g 0
    ·exact i3 s hs
 obtain ⟨k1,k2,k3⟩:=key;exact ⟨fun s hs=>by have:=k1 s hs;omega,fun s hs=>by have:=k2 s hs;omega,fun s hs n hn=>by have:=k3 s hs n hn;omega,h.nums,by omega,by omega⟩
theorem bok_nil:BOk []:=GB.nil.ok (Nat.zero_le _)
theorem Ztf {s:List UInt8} (hs:s.length≤900):BOk (Z0b s).1:=by
 by_cases h:(Z0b s).2.2=0
 ·obtain ⟨l,b,e1,g,hl,e⟩:=Zdi h
  have hc:=Ztl e1;rw [e];exact g.ok (by rw [List.length_map];omega)
 ·have:(Z0b s).1=[]:=by
   have key:∀ (l:List Tk) (n f i:Nat) (acc:List ASt),(Z1d l n f i acc).2.2≠0→(Z1d l n f i acc).1=[]:=by
    intro l n f
    induction f with
    | zero=>intro i acc h;exact absurd rfl h
    | succ f ih =>
     intro i acc h;rw [Z1d] at h ⊢
     by_cases q1:l.length≤i
     ·rw [if_pos q1] at h;exact absurd rfl h
     rw [if_neg q1] at h ⊢
     by_cases q2:acc.length=512
     ·rw [if_pos q2]
     rw [if_neg q2] at h ⊢
     by_cases q3:(Zoc l i).2.2≠0
     ·rw [if_pos q3]
     rw [if_neg q3] at h ⊢;exact ih _ _ h
   unfold Z0b at h ⊢
   by_cases h1:(Zbb s).2.2≠0
   ·rw [if_pos h1]
   rw [if_neg h1] at h ⊢;exact key _ _ _ _ _ h
  rw [this];exact bok_nil
def wkX:X := .bin 10 (.leaf 2 0 [120]) (.leaf 1 1 [])
def wkB:List ASt:=[⟨1,[120],wkX.row 0⟩,⟨2,[103,111],(X.leaf 2 0 [120]).row 0⟩]
def wkY:List ASt:=[⟨1,[120],(X.leaf 2 0 [121]).row 0⟩]
def wkT:List UInt8:=[120,32,58,61,32,120,32,43,32,49,59,32,101,109,105,116,32,103,111,40,120,41,59]
def wkP:List UInt8:=[120,32,58,61,32,120,32,43,32,49,32,59,32,101,109,105,116,32,103,111,32,40,32,120,32,41,32,59]
theorem Z18:printA wkB=(wkP,0):=by
 have h1:prP (wkX.row 0)=(Zha (wkX.W 0),0):=Zps (by decide +kernel) (by decide +kernel);have h2:prP ((X.leaf 2 0 [120]).row 0)=(Zha ((X.leaf 2 0 [120]).W 0),0):=Zps (by decide +kernel) (by decide +kernel)
 have e1:xsT (wkX.row 0)=[120,32,43,32,49,32]:=by
  unfold xsT;rw [if_neg (by decide +kernel),h1];decide +kernel
 have e2:xsT ((X.leaf 2 0 [120]).row 0)=[120,32]:=by
  unfold xsT;rw [if_neg (by decide +kernel),h2];decide +kernel
 unfold printA;rw [if_pos (by decide +kernel)]
 have e3:wkB.map sT=[[120,32,58,61,32,120,32,43,32,49,32,59],[101,109,105,116,32,103,111,32,40,32,120,32,41,32,59]]:=by
  simp [wkB,sT,e1,e2]
 rw [e3]<;>rfl
theorem Zl8 (c:Col) (l:List ASt):(V.agg [Zd c 3 (Zsa c) (Zea l)]).Im := .agg _ fun x hx=>by
 rw [List.mem_singleton.1 hx]
 exact Ziy (fun a y hy=>by
  simp only [Zcg,V.cells,List.mem_cons,List.not_mem_nil,or_false] at hy
  rcases hy with rfl | rfl | rfl
  ·exact .int _ _
  ·exact .str _
  ·exact Ziy (fun n z hz=>by
    simp only [Zt,V.cells,List.mem_cons,List.not_mem_nil,or_false] at hz
    rcases hz with rfl | rfl | rfl | rfl | rfl | rfl<;>first | exact .int _ _ | exact .str _) _) _
theorem Zaa (G:Nat→V) (hE:GExp G):Spec Tryz.prog G 12 [] Zl (fun v _=>v = .bool true):=by
 have hG:=hE.ok;have hn0:encABs .new [] = .nils:=rfl;have hn1:∀ F,V.nils.recol F=V.nils:=fun _=>rfl;refine Zo 0 114 [.tmp 0] Tryz.func12 fun X0=>?_;refine Z1 ?_;refine Z1 ?_;refine Zn hG ?_ (s:=(Zeb G hE wkT (by decide)));rw [show Z0b wkT=(wkB,0,0) from by decide +kernel];refine Zsf (zi @encBP.eq_1 (zi @encABs.eq_1 @Zgf)) ?_;intro g1
 have hB1:BOk wkB:=by
  have:=Ztf (s:=wkT) (by decide);rwa [show Z0b wkT=(wkB,0,0) from by decide +kernel] at this
 refine Z1 ?_;refine Znf (zi @Zgf @Zob) hG ?_ (s:=(Zih G hE _ _ (amS wkB) hB1.len hB1.amp (by rw [Zqh];have:=hB1.c;omega)));rw [Zqh,Z18];refine Zsf @encPr.eq_1 ?_;refine Z1 ?_;refine Zn hG ?_ (s:=(Zeb G hE [120,32,58,61,32,49] (by decide)));rw [show Z0b [120,32,58,61,32,49]=(([],6,110):List ASt × Int × Int) from by decide +kernel];refine Zsf (zi @encBP.eq_1 (zi hn0 hn1)) ?_;intro g6;refine Z1 ?_;refine Zn hG ?_ (s:=(Zeb G hE [101,109,105,116,32,103,111,59] (by decide)));rw [show Z0b [101,109,105,116,32,103,111,59]=(([],7,110):List ASt × Int × Int) from by decide +kernel];refine Zsf (zi @encBP.eq_1 (zi hn0 hn1)) ?_;intro g9;refine Z1 ?_;refine Zn hG ?_ (s:=(Zeb G hE [120,32,61,32,49,59] (by decide)));rw [show Z0b [120,32,61,32,49,59]=(([],2,110):List ASt × Int × Int) from by decide +kernel];refine Zsf (zi @encBP.eq_1 (zi hn0 hn1)) ?_;intro g12;refine Z1 ?_;refine Zn hG ?_ (s:=(Zeb G hE [120,32,58,61,32,59] (by decide)));rw [show Z0b [120,32,58,61,32,59]=(([],5,80):List ASt × Int × Int) from by decide +kernel];refine Zsf (zi @encBP.eq_1 (zi hn0 hn1)) ?_;intro g15;refine Z1 ?_;refine Zn hG ?_ (s:=(Zeb G hE [120,32,58,61,32,121,59] (by decide)));rw [show Z0b [120,32,58,61,32,121,59]=((wkY,0,0):List ASt × Int × Int) from by decide +kernel];refine Zsf (zi @encBP.eq_1 (zi @encABs.eq_1 @Zgf)) ?_;intro g18
 have hB2:BOk wkY:=by
  have:=Ztf (s:=[120,32,58,61,32,121,59]) (by decide);rwa [show Z0b [120,32,58,61,32,121,59]=(wkY,0,0) from by decide +kernel] at this
 refine Z1 ?_;intro g60
 refine Z8c hG [.agg [Zd .old 3 (Z6 .old) (amS wkY)],Zd .old 1 V.str (.mk false [[120]]),Zd .old 1 V.str .nil] (by kernel_rfl)
  ⟨Znl (Zl8 .new wkY) (by simp only [Zme,List.map_cons,List.map_nil,Zgf,Zob];rfl),Rd.msl (off:=0) (n:=1) (l:=[[120]]) (f:=V.str) (f':=V.str) (g:=g60) (fz:=0) (c := .new) zp (fun _=>rfl) (fun x y hy=>by simp [V.cells] at hy;subst hy;exact .str _) (fun _=>rfl) (by decide),Znl .nils rfl,trivial⟩ ?_
 refine (Zfe G hE .old .old .old .old (amS wkY) (.mk false [[120]]) .nil hB2.len hB2.amb (by decide) (by decide)).mono ?_;rintro _ _ rfl;rw [Zqh,show Zxf wkY (Sl.mk false [[120]]).l (Sl.nil:Sl (List UInt8)).l=(0,90) from by decide +kernel];refine ⟨.tuple _ fun x hx=>?_,?_⟩
 ·simp only [List.mem_cons,List.not_mem_nil,or_false] at hx
  rcases hx with rfl | rfl<;>exact .int _ _
 refine Zsf @encTy.eq_1 ?_;have e0:((0:Int)==0)=true:=rfl;have ta:∀ l:List Oper,l.toArray=(⟨l⟩:Array Oper):=fun l=>rfl;have hpq:(wkP==[120,32,58,61,32,120,32,43,32,49,32,59,32,101,109,105,116,32,103,111,32,40,32,120,32,41,32,59])=true:=rfl;exact Zq hpq
end Go.Hs
end

section
namespace Go.Hs
open Go.Proofs
set_option maxRecDepth 10000
def shN:Nat→Sh
 | 0 => .int .u8
 | 2 => .str
 | _ => .int .i64
def shNs (M:Nat):Sh := .row true 6 M shN
def shSt (M:Nat) (i:Nat):Sh:=match i with | 0 => .int .u8 | 1 => .str | _=>shNs M
def Zh3 (N M:Nat):Sh := .row true 3 N (shSt M)
def Zqd (N M:Nat):Sh := .rowN true false 3 N (shSt M)
theorem Zkt {α : Type} {f : α → V} {R : α → Prop}:∀ {l:List V},(∀ u∈l,∃ x,u=f x∧R x)→∃ m:List α,l=m.map f∧∀ x∈m,R x
 | [],_=>⟨[],rfl,by simp⟩
 | u::r,h=>by
  obtain ⟨x,rfl,hx⟩:=h u (by simp);obtain ⟨m,rfl,hm⟩:=Zkt (f:=f) (R:=R) (l:=r) fun v hv=>h v (by simp [hv]);exact ⟨x::m,rfl,by simpa using ⟨hx,hm⟩⟩
theorem Zo9 (i:Nat):(shN i).free:=by
 match i with
 | 0=>trivial
 | 1=>trivial
 | 2=>trivial
 | n+3=>trivial
theorem Zh7 {M:Nat}:∀ i,i<3→(shSt M i).free:=by
 intro i hi
 match i,hi with
 | 0,_=>trivial
 | 1,_=>trivial
 | 2,_=>intro j hj;exact Zo9 j
theorem Zi7 {N M:Nat}:(Sh.agg 1 (fun _=>Zh3 N M)).free:=fun i _=>Zh7
theorem Zn9 {c c':Col} {M:Nat} {s:Sl XN} (h:s.l.length≤M):ShV c c' (shNs M) (Zd c 6 Zca s):=by
 cases s with
 | nil=>exact .inl rfl
 | mk b l =>
  refine .inr ⟨b,l.map Zca,rfl,by rw [List.length_map];exact h,?_⟩;intro u hu;obtain ⟨n,_,rfl⟩:=List.mem_map.1 hu;refine ⟨rfl,rfl,fun i hi=>?_⟩;have hi:i<6:=hi
  match i,hi with
  | 0,_=>exact ⟨n.op,rfl⟩
  | 1,_=>exact ⟨n.num,rfl⟩
  | 2,_=>exact ⟨n.name,rfl⟩
  | 3,_=>exact ⟨n.a,rfl⟩
  | 4,_=>exact ⟨n.b,rfl⟩
  | 5,_=>exact ⟨n.c,rfl⟩
theorem Zm9 {c c':Col} {M:Nat} {v:V} (h:ShV c c' (shNs M) v):∃ s:Sl XN,v=Zd c 6 Zca s∧s.l.length≤M:=by
 rcases h with rfl | ⟨clip,l,rfl,hl,hu⟩
 ·exact ⟨.nil,rfl,Nat.zero_le _⟩
 ·obtain ⟨ns,rfl,_⟩:=Zkt (f:=Zca) (R:=fun _=>True) (l:=l) fun u hu'=>by
   obtain ⟨h1,h2,h3⟩:=hu u hu';generalize u.cells=cs at *
   match cs,h1 with
   | [a,b,d,e,f,g],_ =>
    obtain ⟨x0,k0⟩:=h3 0 (by simp);obtain ⟨x1,k1⟩:=h3 1 (by simp);obtain ⟨x2,k2⟩:=h3 2 (by simp);obtain ⟨x3,k3⟩:=h3 3 (by simp);obtain ⟨x4,k4⟩:=h3 4 (by simp);obtain ⟨x5,k5⟩:=h3 5 (by simp);simp only [List.getElem_cons_zero,List.getElem_cons_succ] at k0 k1 k2 k3 k4 k5;exact ⟨⟨x0,x1,x2,x3,x4,x5⟩,by rw [h2,k0,k1,k2,k3,k4,k5]<;>rfl,trivial⟩
  exact ⟨.mk clip ns,rfl,by simpa [Sl.l] using hl⟩
theorem Zk2 {c c':Col} {M:Nat} {l:List V} (hu:∀ u∈l,u.cells.length=3∧u=mkV true u.cells∧∀ i (h:i<u.cells.length),ShV c c' (shSt M i) u.cells[i]):∃ m:List AM,l=m.map (Z6 c)∧∀ n∈m,n.x.l.length≤M :=
 Zkt (f:=Z6 c) (R:=fun n=>n.x.l.length≤M) (l:=l) fun u hu'=>by
  obtain ⟨h1,h2,h3⟩:=hu u hu';generalize u.cells=cs at *
  match cs,h1 with
  | [a,b,d],_ =>
   obtain ⟨x,hx⟩:=h3 0 (by simp);obtain ⟨y,hy⟩:=h3 1 (by simp);obtain ⟨s,hs,hl⟩:=Zm9 (h3 2 (by simp));simp only [List.getElem_cons_zero,List.getElem_cons_succ] at hx hy hs;exact ⟨⟨x,y,s⟩,by rw [h2,hx,hy,hs]<;>rfl,hl⟩
theorem Zv5 {c c':Col} {N M:Nat} {v:V} (h:ShV c c' (Zh3 N M) v):∃ t:Sl AM,v=Zd c 3 (Z6 c) t∧t.l.length≤N∧∀ n∈t.l,n.x.l.length≤M:=by
 rcases h with rfl | ⟨clip,l,rfl,hl,hu⟩
 ·exact ⟨.nil,rfl,by simp [Sl.l],by simp [Sl.l]⟩
 ·obtain ⟨m,rfl,hm⟩:=Zk2 hu
  exact ⟨.mk clip m,rfl,by simpa [Sl.l] using hl,by simpa [Sl.l] using hm⟩
theorem Zf3 {c c':Col} {N M:Nat} {v:V} (h:ShV c c' (Zqd N M) v):∃ t:Sl AM,v=Zd c 3 (Z6 c) t∧t.l.length=N∧∀ n∈t.l,n.x.l.length≤M:=by
 rcases h with ⟨rfl,h0⟩ | ⟨clip,l,rfl,hl,hu⟩
 ·exact ⟨.nil,rfl,by simp [Sl.l,h0],by simp [Sl.l]⟩
 ·obtain ⟨m,rfl,hm⟩:=Zk2 hu
  exact ⟨.mk clip m,rfl,by simpa [Sl.l] using hl,by simpa [Sl.l] using hm⟩
def Z93 (c:Col) (t:Sl AM):V := .agg [Zd c 3 (Z6 c) t]
@[go_sem] theorem encBo_K (c:Col) (t:Sl AM):Z93 c t = .agg [Zd c 3 (Z6 c) t]:=rfl
theorem Zvl {N M:Nat} {v:V} (h:ShV .old .new (.ptr true true 1 (fun _=>Zqd N M)) v):∃ t:Sl AM,v = .view .new (Z93 .old t)∧t.l.length=N∧∀ n∈t.l,n.x.l.length≤M:=by
 obtain ⟨u,rfl,h1,h2,h3⟩:=h;generalize u.cells=cs at *
 match cs,h1 with
 | [a],_ =>
  obtain ⟨t,ht,hl⟩:=Zf3 (h3 0 (by simp));simp only [List.getElem_cons_zero] at ht;exact ⟨t,by rw [h2,ht]<;>rfl,hl⟩
theorem Zi1 {c c':Col} {M:Nat} {n:AM} (h:n.x.l.length≤M):∀ i (hi:i<(Z6 c n).cells.length),ShV c c' (shSt M i) (Z6 c n).cells[i]:=by
 intro i hi;have hi:i<3:=hi
 match i,hi with
 | 0,_=>exact ⟨_,rfl⟩
 | 1,_=>exact ⟨_,rfl⟩
 | 2,_=>exact Zn9 h
theorem Zw5 {c c':Col} {N M:Nat} {t:Sl AM} (h:t.l.length≤N) (hk:∀ n∈t.l,n.x.l.length≤M):ShV c c' (Zh3 N M) (Zd c 3 (Z6 c) t):=by
 cases t with
 | nil=>exact .inl rfl
 | mk b l =>
  refine .inr ⟨b,_,rfl,by simpa [Sl.l] using h,?_⟩;intro u hu;obtain ⟨n,hn,rfl⟩:=List.mem_map.1 hu;exact ⟨rfl,rfl,Zi1 (hk n hn)⟩
theorem Zg3 {c c':Col} {N M:Nat} {t:Sl AM} (h:t.l.length=N) (hk:∀ n∈t.l,n.x.l.length≤M):ShV c c' (Zqd N M) (Zd c 3 (Z6 c) t):=by
 cases t with
 | nil=>exact .inl ⟨rfl,by simpa [Sl.l] using h.symm⟩
 | mk b l =>
  refine .inr ⟨b,_,rfl,by simpa [Sl.l] using h,?_⟩;intro u hu;obtain ⟨n,hn,rfl⟩:=List.mem_map.1 hu;exact ⟨rfl,rfl,Zi1 (hk n hn)⟩
theorem Zi3 {N M:Nat} {t:Sl AM} (h:t.l.length=N) (hk:∀ n∈t.l,n.x.l.length≤M):ShV .old .new (.ptr true true 1 (fun _=>Zqd N M)) (.view .new (Z93 .old t)) :=
 ⟨_,rfl,rfl,rfl,fun i hi=>by
  have hi:i<1:=hi
  have:i=0:=by omega
  subst this
  exact Zg3 h hk⟩
theorem Zk3 {N M:Nat} {t:Sl AM} (h:t.l.length≤N) (hk:∀ n∈t.l,n.x.l.length≤M):ShV .new .new (.agg 1 (fun _=>Zh3 N M)) (Z93 .new t) :=
 ⟨_,rfl,rfl,fun i hi=>by
  have hi:i<1:=hi
  have:i=0:=by omega
  subst this
  exact Zw5 h hk⟩
theorem Zj3 {N M:Nat} {v:V} (h:ShV .old .new (.agg 1 (fun _=>Zh3 N M)) v):∃ t:Sl AM,v=Z93 .old t∧t.l.length≤N∧∀ n∈t.l,n.x.l.length≤M:=by
 obtain ⟨l,rfl,h1,h3⟩:=h
 match l,h1 with
 | [a],_ =>
  obtain ⟨t,ht,hl⟩:=Zv5 (h3 0 (by simp));simp only [List.getElem_cons_zero] at ht;exact ⟨t,by rw [ht]<;>rfl,hl⟩
theorem Zj7 {N M:Nat} (l:List (Nat × Sh)) (hl:∀ p∈l,∃ k n,p.2 = .lit k n):∀ p∈((1,Sh.ptr true true 1 (fun _=>Zqd N M))::l),p.2.freeT:=by
 intro p hp
 cases hp with
 | head =>
  show ∀ i,i<1→(Zqd N M).freeT
  intro i _
  show ∀ i,i<3→(shSt M i).free
  exact Zh7
 | tail _ hp=>obtain ⟨k,n,h⟩:=hl p hp;rw [h];trivial
theorem Z4r (N0 M:Nat) (hN:N0<1000000000) (hM:M<1000000000):Spoils Tryz.prog 17 [.agg 1 (fun _=>Zh3 N0 M)]:=by
 refine Zoq (n:=38) rfl rfl rfl rfl rfl fun w0 B C=>?_;refine AK.pre 0 ?_;rintro w _ ⟨v0,_,rfl,h0,rfl⟩;obtain ⟨t,rfl,hl,hk⟩:=Zj3 h0;refine Z1 ?_;intro g;generalize hN1:t.l.length=N at hl;refine AC.weak (Z2 (fun o=>o==1) (l:=[(1,.view .new (Z93 .old t))]) (m:=[]) (by simp -implicitDefEqProofs only[go_sem,seval,↓reduceIte];exact Fz.ptr rfl rfl) trivial) (AC.k [(1,.ptr true true 1 (fun _=>Zqd N M))] (by simp -implicitDefEqProofs only[go_sem,seval,↓reduceIte];exact Zi3 hN1 hk) ?_)
 try clear h0 hk hN1
 refine AK.pre 0 ?_;rintro w _ ⟨v0,_,rfl,h0,rfl⟩;refine Z1 ?_;refine AC.k [(1,.ptr true true 1 (fun _=>Zqd N M)),(2,.lit .i64 0)] (by simp -implicitDefEqProofs only[go_sem,seval,↓reduceIte];exact h0) ?_;refine AK.block ?_;refine Zdea N (fun k=>[(1,.ptr true true 1 (fun _=>Zqd N M)),(2,.lit .i64 k)]) 0 (Nat.zero_le _) fun k hk=>?_;refine AK.pre 0 ?_;rintro w _ ⟨v0,_,rfl,h0,_,_,rfl,rfl,rfl⟩;obtain ⟨t,rfl,hl1,hkk⟩:=Zvl h0;refine Z1 ?_;refine Za rfl (fun h1=>?_) (fun h1=>?_)
 ·refine Z0 ?_
  have hkN:k<N:=by have:=of_decide_eq_true h1;omega
  refine AC.k [(1,.ptr true true 1 (fun _=>Zqd N M)),(2,.lit .i64 k)] (by simp -implicitDefEqProofs only[go_sem,seval,↓reduceIte];exact h0) ?_;refine Zp8 [(1,.ptr true true 1 (fun _=>Zqd N M)),(2,.lit .i64 k)] (AK.block ?_) ?_
  ·refine Zp8 [(1,.ptr true true 1 (fun _=>Zqd N M)),(2,.lit .i64 k)] ?_ ?_
   ·
    refine AK.pre 0 ?_;rintro w _ ⟨v0,_,rfl,h0,_,_,rfl,rfl,rfl⟩;refine Z1 ?_;refine AC.k [(1,.ptr true true 1 (fun _=>Zqd N M)),(2,.lit .i64 k),(3,.lit .i64 0)] (by simp -implicitDefEqProofs only[go_sem,seval,↓reduceIte];exact h0) ?_;refine AK.block ?_;refine Zdea M (fun j=>[(1,.ptr true true 1 (fun _=>Zqd N M)),(2,.lit .i64 k),(3,.lit .i64 j)]) 0 (Nat.zero_le _) fun j hj=>?_;refine AK.pre 0 ?_;rintro w _ ⟨v0,_,rfl,h0,_,_,rfl,rfl,_,_,rfl,rfl,rfl⟩;obtain ⟨t,rfl,hl1,hkk⟩:=Zvl h0
    have hk1:k<t.l.length:=by omega
    have hgt:=List.getElem?_eq_getElem hk1;have hgm:=hkk _ (List.getElem_mem hk1);generalize t.l[k]=nd at hgt hgm;refine Z1f (zi hgt @Zpa) ?_;refine Za rfl (fun h2=>?_) (fun h2=>?_)
    ·refine Z0 ?_
     have hj1:j<nd.x.l.length:=by simpa using h2
     have hgj:=List.getElem?_eq_getElem hj1;refine AC.seqK [(1,.ptr true true 1 (fun _=>Zqd N M)),(2,.lit .i64 k),(3,.lit .i64 j)] (AC.block (AC.store [(1,.ptr true true 1 (fun _=>Zqd N M)),(2,.lit .i64 k),(3,.lit .i64 j)] (Zj7 _ (by simp)) (by kernel_rfl) (by kernel_rfl) rfl ?_ fun a w h1 h2=>⟨h1,h2⟩)) ?_
     ·simp -implicitDefEqProofs only [List.dropLast]
      refine Zsf (zi hgt (zi hgj (zi @Zpa @Zt))) ?_;exact ⟨⟨_,rfl,rfl,by kernel_rfl,⟨rfl,rfl,trivial,rfl,rfl,rfl,trivial⟩,by decide⟩,h0⟩
     ·refine AK.all 0 ?_
      rintro w _ ⟨v0,_,rfl,h0,_,_,rfl,rfl,_,_,rfl,rfl,rfl⟩;refine Z1 ?_;refine leave.k [(1,.ptr true true 1 (fun _=>Zqd N M)),(2,.lit .i64 k),(3,.lit .i64 (j+1:Nat))] (by simp -implicitDefEqProofs only[go_sem,seval,↓reduceIte];exact ⟨h0,w64 (by omega) (by omega)⟩) fun a w h1 h2=>⟨by omega,h1,h2⟩
    ·refine Z0 ?_
     refine leave.k [(1,.ptr true true 1 (fun _=>Zqd N M)),(2,.lit .i64 k)] (by simp -implicitDefEqProofs only[go_sem,seval,↓reduceIte];exact h0) fun a w h1 h2=>⟨h1,h2⟩
   ·
    refine AK.store 0 [(1,.ptr true true 1 (fun _=>Zqd N M)),(2,.lit .i64 k)] (Zj7 _ (by simp)) (by kernel_rfl) (by kernel_rfl) rfl ?_ fun a w h1 h2=>⟨h1,h2⟩;rintro w _ ⟨v0,_,rfl,h0,_,_,rfl,rfl,rfl⟩;obtain ⟨t,rfl,hl1,hkk⟩:=Zvl h0
    have hk1:k<t.l.length:=by omega
    have hgt:=List.getElem?_eq_getElem hk1;generalize t.l[k]=nd at hgt;simp -implicitDefEqProofs only [List.dropLast];refine Zsf (zi hgt @Zpa) ?_;exact ⟨⟨_,rfl,rfl,by kernel_rfl,⟨trivial,trivial⟩,by decide⟩,h0⟩
  ·refine AK.all 0 ?_
   rintro w _ ⟨v0,_,rfl,h0,_,_,rfl,rfl,rfl⟩;refine Z1 ?_;refine leave.k [(1,.ptr true true 1 (fun _=>Zqd N M)),(2,.lit .i64 (k+1:Nat))] (by simp -implicitDefEqProofs only[go_sem,seval,↓reduceIte];exact ⟨h0,w64 (by omega) (by omega)⟩) fun a w h1 h2=>⟨hkN,h1,h2⟩
 ·refine Z0 ?_
  refine leave.k [] trivial fun a w h1 h2=>⟨h1.df,h2⟩
end Go.Hs
end

section
namespace Go.Hs
open Go.Proofs
set_option maxRecDepth 10000
theorem old_ams (s:Sl AM):V.Old (Zd .old 3 (Z6 .old) s):=Zj8 (fun n y hy=>by
 simp only [Zpa,V.cells,List.mem_cons,List.not_mem_nil,or_false] at hy
 rcases hy with rfl | rfl | rfl
 ·exact .int _ _
 ·exact .str _
 ·exact Zj8 (fun n y hy=>by
   simp only [Zt,V.cells,List.mem_cons,List.not_mem_nil,or_false] at hy
   rcases hy with rfl | rfl | rfl | rfl | rfl | rfl<;>first | exact .int _ _ | exact .str _) _) s
theorem Z16 (G:Nat→V) (hE:GExp G) (hGo:∀ g,(G g).Old) (s:List UInt8) :
  Spec Tryz.prog G 3 [.str s] Zl (fun v _=>v = .bool true):=by
 have hG:=hE.ok;refine Zo 0 48 [.tmp 2] Tryz.func3 fun X=>?_;refine Z1 ?_;refine Zy ?_
 by_cases hl:s.length > 600
 ·have q1:decide (((s.length:Nat):Int) > 600)=true:=zT
  refine Z1f q1 ?_;refine Z1 ?_;refine Zc hG ?_ (s:=(Zaa G hE));exact Zr
 have q1:decide (((s.length:Nat):Int) > 600)=false:=zF;refine Z1f q1 ?_;refine Z0 ?_;have hx:=Zeb G hE s (by omega);have hr:=Zd0 G hG s (by omega);have hb:=Ztf (s:=s) (by omega);generalize Z0b s=p at hx hr hb;obtain ⟨l,wi,we⟩:=p;simp only at hb;have hlen:=hb.len;have hxl:∀ a∈(amS l).l,a.x.l.length<1000:=fun a ha=>(hb.amp a ha).l
 have hxl2:∀ a∈(amS l).l,a.x.l.length<1000000:=fun a ha=>by have:=hxl a ha;omega
 have hll:(amS l).l.length≤100000:=by rw [Zug,List.length_map];have:=hb.k;omega
 have hvv:(amS l).l.map AM.v=l:=Zqh l;refine Z1 ?_;refine Zn hG ?_ (s:=hr);refine Zsf (zi @encBR.eq_1 (zi @encABs.eq_1 (zi @Zob @Zw))) ?_
 have hxe:encBP (l,wi,we) = .tuple [.agg [Zd .new 3 (Z6 .new) (amS l)],.int .i64 wi,.int .i64 we]:=by unfold encBP encABs;rw [Zob]
 have hre0:encABs .new l=Zd .new 3 (Z6 .new) (amS l):=by unfold encABs;rw [Zob]
 generalize amS l=S at hlen hxl hxl2 hll hvv hxe hre0 ⊢;refine AW.weak (Z2 (fun _=>false) (l:=[(0,.str s),(3,Zd .new 3 (Z6 .new) S),(4,.int .i64 wi),(5,.int .i64 we)]) (m:=[]) ?_ trivial) ?_
 ·refine Zs ?_
  exact ⟨Ze _,Ze _,Ze _,Ze _⟩
 refine Zo8 hG fun X1 H1 hb1 hI1=>?_;simp -implicitDefEqProofs only[go_sem,seval,↓reduceIte,List.map_cons,List.map_nil,recol_cells,Zuk,Zw];refine AW.weak (Z2 (fun _=>false) (l:=[(0,.str s),(3,Zd .old 3 (Z6 .old) S),(4,.int .i64 wi),(5,.int .i64 we)]) (m:=[]) ?_ trivial) ?_
 ·refine Zs ?_
  exact ⟨Ze _,Ze _,Ze _,Ze _⟩
 refine Z1 ?_;refine AW.block ?_
 refine Zua 2 (fun k (_:Unit)=>st [(0,.str s),(3,Zd .old 3 (Z6 .old) S),(4,.int .i64 wi),(5,.int .i64 we),(6,.int .i64 k)] [])
  (fun _ _=>True) 0 () (Nat.zero_le _) trivial (Zb zp zp) ?_
 intro k _ hk _ L3 hL3;refine Z1 ?_;refine Za rfl (fun h21=>?_) (fun h21=>?_);rotate_left
 ·refine Z1 ?_
  refine Zc hG ?_ (s:=(Zaa G hE));exact Zr
 have hk1:k<2:=by have:decide ((k:Int)<2)=true:=h21;simp at this;omega
 refine Z1 ?_;refine Zn hG ?_ (s:=hx);have hxS:encBP (l,wi,we) = .tuple [.agg [Zd .new 3 (Z6 .new) S],.int .i64 wi,.int .i64 we]:=hxe;rw [hxS];refine Zsf @Zw ?_;intro g7;refine Zy ?_
 have e5:(S.l.map AM.v==S.l.map AM.v)=true:=by simp
 have hb2:(wi != wi)=false:=by simp
 have hb3:(we != we)=false:=by simp
 refine Z1f (zi hb2 hb3) ?_;refine Znf @Zw hG ?_ (s:=(Zmc G hG _ _ S hlen hxl2));rw [hvv];have hre:encABs .new l=Zd .new 3 (Z6 .new) S:=hre0;rw [hre];refine Zsf @Zw ?_;refine Znf @Zw hG ?_ (s:=(Z9i G hG _ _ _ _ S S hlen hxl2));rw [e5];refine Zs ?_;refine Z0 ?_;refine Zw4 [(0,.str s),(3,Zd .old 3 (Z6 .old) S),(4,.int .i64 wi),(5,.int .i64 we),(6,.int .i64 k)] [] [] hb1 hI1 hGo (Z4r 100000 1000 (by omega) (by omega)) (by intro s hs;simp at hs;subst hs;exact Zi7) (by simp) (by kernel_rfl) (by kernel_rfl) (by kernel_rfl) rfl ?_ ?_ ?_
 ·refine Zs ?_
  exact ⟨.str _,old_ams _,.int _ _,.int _ _,.int _ _⟩
 ·first | trivial | (intro p hp;cases hp) | (simp -implicitDefEqProofs only[go_sem,seval,↓reduceIte];simp)
 simp -implicitDefEqProofs only[go_sem,seval,↓reduceIte,List.dropLast];refine ⟨Zk3 (t:=S) hll (fun n hn=>by have:=hxl n hn;omega),?_⟩;rintro _ rfl;refine Zs ?_;refine Z1 ?_;exact hL3 _ ⟨hk1,(),trivial,Zb zw zp⟩
end Go.Hs
end

section
namespace Go.Hs
open Go.Proofs
set_option maxRecDepth 10000
theorem am_eqV (a b:AM):(a.v==b.v)=(a.kind==b.kind && (a.name==b.name && a.x.l==b.x.l)):=by
 rw [Bool.eq_iff_iff];simp only [AM.v,beq_iff_eq,ASt.mk.injEq,Bool.and_eq_true]
theorem Za0 (G:Nat→V) (hG:GOk G) (c c1:Col) (a b:AM) (hb:a.x.l.length<1000000) :
  Spec Tryz.prog G 56 [Z6 c a,Z6 c1 b] Zl (fun v _=>v = .bool (a.v==b.v)):=by
 refine Zo 0 24 [.tmp 4] Tryz.func56 fun X=>?_;have hP:=am_eqV a b;generalize (a.v==b.v)=res at hP ⊢;simp only [Zpa];refine Z1 ?_;intro g2 g3
 cases q1:(a.kind==b.kind) with
 | false =>
  refine Zf q1 ?_
  rw [hP,q1]<;>rfl
 | true =>
 cases q2:(a.name==b.name) with
 | false =>
  refine Zf (zi q1 q2) ?_
  rw [hP,q1,q2]<;>rfl
 | true =>
 refine Z1f (zi q1 q2) ?_;refine Znf @Z4 hG ?_ (s:=(Z22 G hG _ _ a.x b.x hb));refine Zsf (zi q1 q2) ?_;refine Z ?_
 rw [hP,q1,q2]<;>rfl
theorem Zf0 (G:Nat→V) (hG:GOk G) (c c1 d d1:Col) (s t:Sl AM) (hs:s.l.length<1000000) (hx:∀ x∈s.l,x.x.l.length<1000000) :
  Spec Tryz.prog G 55 [Zd c 3 (Z6 c1) s,Zd d 3 (Z6 d1) t,.func (.func 56) [] []] Zl (fun v _=>v = .bool (s.l.map AM.v==t.l.map AM.v)):=by
 refine Zo 0 32 [.tmp 6] Tryz.func55 fun X=>?_;refine Z1 ?_;refine Z1 ?_
 by_cases hl:s.l.length=t.l.length
 rotate_left
 ·have q1:(((s.l.length:Nat):Int) != ((t.l.length:Nat):Int))=true:=by simp;omega
  have hne:(s.l.map AM.v==t.l.map AM.v)=false:=by rw [beq_eq_false_iff_ne];exact fun h=>hl (by have:=congrArg List.length h;simpa using this)
  rw [q1];refine Za rfl (fun h14=>?_) (fun h14=>?_)
  ·refine Z ?_
   rw [hne]
  ·cases h14
 have q1:(((s.l.length:Nat):Int) != ((t.l.length:Nat):Int))=false:=by simp;omega
 rw [q1];refine Z1 ?_;refine AW.block ?_
 refine Zua s.l.length (fun k (_:Unit)=>st [(1,Zd d 3 (Z6 d1) t),(2,.func (.func 56) [] []),(15,Zd c 3 (Z6 c1) s),(16,.int .i64 s.l.length),(17,.int .i64 k)] []) (fun k _=>(s.l.take k).map AM.v=(t.l.take k).map AM.v) 0 () (Nat.zero_le _) rfl
  (Zb zp zp) ?_
 intro k _ hk hR L3 hL3;refine Z1 ?_;refine Zy ?_;refine Za rfl (fun h18=>?_) (fun h18=>?_);rotate_left
 ·have hk1:k=s.l.length:=by have:=zN h18;omega
  refine Z0 ?_;rw [hk1,List.take_length,hl,List.take_length] at hR;refine Z ?_;rw [hR];simp
 have hk1:k<s.l.length:=zL h18
 have hk2:k<t.l.length:=by omega
 have hg:=List.getElem?_eq_getElem hk1;have hg2:=List.getElem?_eq_getElem hk2;have hxx:=hx _ (List.getElem_mem hk1)
 have htk:s.l.take (k+1)=s.l.take k++[s.l[k]]:=by rw [List.take_succ_eq_append_getElem hk1]
 have htk2:t.l.take (k+1)=t.l.take k++[t.l[k]]:=by rw [List.take_succ_eq_append_getElem hk2]
 generalize s.l[k]=a at hg htk hxx;generalize t.l[k]=b at hg2 htk2;refine Z1f (zi hg @Zpa) ?_;intro g8;refine Z1f (zi hg2 @Zpa) ?_;intro g9;refine Z1 ?_;refine CallA.pure hG (by kernel_rfl) ?_;simp only [List.map_cons,List.map_nil,← Zpa,Zon];refine (Za0 G hG _ _ a b hxx).mono ?_;rintro _ _ rfl;refine Zs ?_
 cases hab:(a.v==b.v) with
 | false =>
  have hab':a.v≠b.v:=by simpa using hab
  refine Z ?_;rw [Zq6 hg hg2 hab']
 | true =>
  have hab':a.v=b.v:=by simpa using hab
  refine Z1 ?_;exact hL3 _ ⟨hk1,(),by rw [htk,htk2,List.map_append,List.map_append,hR];show _++[a.v]=_++[b.v];rw [hab'],Zb zw zp⟩
theorem Zkm (G:Nat→V) (hG:GOk G) (c c1 d d1:Col) (s t:Sl AM) (hs:s.l.length<1000000) (hx:∀ x∈s.l,x.x.l.length<1000000) :
  Spec Tryz.prog G 26 [.agg [Zd c 3 (Z6 c1) s],.agg [Zd d 3 (Z6 d1) t]] Zl (fun v _=>v = .bool (s.l.map AM.v==t.l.map AM.v)):=by
 refine Zo 0 10 [.tmp 4] Tryz.func26 fun X=>?_;refine Z1 ?_;intro g2 g3;refine Z1 ?_;refine Zcf @Zw hG ?_ (s:=(Zf0 G hG _ _ _ _ s t hs hx));exact Zr
end Go.Hs
end

section
namespace Go.Hs
open Go.Proofs
set_option maxRecDepth 10000
theorem Z8w {l:List AM} (h:Zy8 l=true):Z4j (l.map AM.v)≤65536:=by
 obtain ⟨h1,h2⟩:=Zcl h
 have key:∀ l:List AM,(∀ a∈l,a.x.l.length≤40)→Z4j (l.map AM.v)≤2719 * l.length:=by
  intro l
  induction l with
  | nil=>intro _;exact Nat.le_refl _
  | cons a r ih =>
   intro h;have h0:=h a (by simp);have ih:=ih fun x hx=>h x (by simp [hx]);simp only [Z4j,List.map_cons,List.sum_cons,List.length_cons] at ih ⊢;have:(AM.v a).x.length=a.x.l.length:=rfl;omega
 have:=key l fun a ha=>(h2 a ha).2.1;omega
theorem Z6z {l:List AM} (h:Zy8 l=true) (hi:∀ a∈l,∀ n∈a.x.l,InK .i64 n.num):∀ a∈l,AmP a:=by
 obtain ⟨h1,h2⟩:=Zcl h;intro a ha;obtain ⟨k1,k2,k3⟩:=h2 a ha;refine ⟨by omega,by omega,fun n hn=>by have:=k3 n hn;omega,fun n hn=>?_⟩;have:=(hi a ha n hn).2;rw [show IntKind.i64.max=9223372036854775807 from rfl] at this;exact this
theorem AmP.b {a:AM} (h:AmP a):AmB a:=⟨h.n,by have:=h.l;omega,h.x⟩
theorem Z7z {l:List AM} (hl:l.length<1000000) (h:∀ a∈l,AmP a):AmOk l:=⟨hl,fun a ha=>⟨(h a ha).b.n,(h a ha).b.l,(h a ha).b.x⟩⟩
theorem Ztm (l:List ASt):(encABs .new l).recol Col.bk=Zd .new 3 (Z6 .new) (amS l):=by
 unfold encABs
 rw [Zgf,Zob]<;>rfl
set_option maxHeartbeats 4000000 in
theorem Zcr (G:Nat→V) (hE:GExp G) (a b:Sl AM) (ia:∀ x∈a.l,∀ n∈x.x.l,InK .i64 n.num) (ib:∀ x∈b.l,∀ n∈x.x.l,InK .i64 n.num) (vars events:Sl (List UInt8)) (hv:vars.l.length≤9223372036854775807) (hev:events.l.length≤9223372036854775807) (c c1 d d1 c2 c3:Col) :
  Spec Tryz.prog G 5 [.agg [Zd c 3 (Z6 c1) a],.agg [Zd d 3 (Z6 d1) b],Zd c2 1 V.str vars,Zd c3 1 V.str events] Zl (fun v _=>v = .bool true):=by
 have hG:=hE.ok;refine Zkh 0 107 [.tmp 8] Tryz.func5 rfl rfl rfl rfl fun X=>?_;refine Zh fun K hK=>AW.region (by kernel_rfl) ?_;simp -implicitDefEqProofs only[go_sem,seval,↓reduceIte];intro g4 g5;refine hK _ ?_;clear hK K;refine Zh fun K1 hK1=>?_;refine Zh fun K hK=>AW.region (by kernel_rfl) ?_;simp -implicitDefEqProofs only[go_sem,seval,↓reduceIte];refine CallA.pure hG (by kernel_rfl) ?_;simp -implicitDefEqProofs only[go_sem,seval,↓reduceIte,Zw];refine (Zmj G hG _ _ a).mono ?_;rintro _ _ rfl
 cases q1:Zy8 a.l with
 | false =>
  simp -implicitDefEqProofs only[go_sem,seval,↓reduceIte,q1];refine hK _ ?_;clear hK K;refine Za (by simp -implicitDefEqProofs only[go_sem,seval,↓reduceIte];rfl) (fun h34=>?_) (fun h34=>?_);rotate_left
  ·cases h34
  refine Zh fun K hK=>AW.region (by kernel_rfl) ?_;simp -implicitDefEqProofs only[go_sem,seval,↓reduceIte];refine CallA.pure hG (by kernel_rfl) ?_;simp -implicitDefEqProofs only[go_sem,seval,↓reduceIte,List.map_nil];refine (Zaa G hE).mono ?_;rintro _ _ rfl;simp -implicitDefEqProofs only[go_sem,seval,↓reduceIte];refine hK _ ?_;clear hK K;refine AW.ret ?_;simp -implicitDefEqProofs only[go_sem,seval,↓reduceIte];refine Zia ?_;rfl
 | true =>
 simp -implicitDefEqProofs only[go_sem,seval,↓reduceIte,q1];refine CallA.pure hG (by kernel_rfl) ?_;simp -implicitDefEqProofs only[go_sem,seval,↓reduceIte,Zw];refine (Zmj G hG _ _ b).mono ?_;rintro _ _ rfl
 cases q2:Zy8 b.l with
 | false =>
  simp -implicitDefEqProofs only[go_sem,seval,↓reduceIte,q2];refine hK _ ?_;clear hK K;refine Za (by simp -implicitDefEqProofs only[go_sem,seval,↓reduceIte];rfl) (fun h34=>?_) (fun h34=>?_);rotate_left
  ·cases h34
  refine Zh fun K hK=>AW.region (by kernel_rfl) ?_;simp -implicitDefEqProofs only[go_sem,seval,↓reduceIte];refine CallA.pure hG (by kernel_rfl) ?_;simp -implicitDefEqProofs only[go_sem,seval,↓reduceIte,List.map_nil];refine (Zaa G hE).mono ?_;rintro _ _ rfl;simp -implicitDefEqProofs only[go_sem,seval,↓reduceIte];refine hK _ ?_;clear hK K;refine AW.ret ?_;simp -implicitDefEqProofs only[go_sem,seval,↓reduceIte];refine Zia ?_;rfl
 | true =>
 simp -implicitDefEqProofs only[go_sem,seval,↓reduceIte,q2];refine CallA.pure hG (by kernel_rfl) ?_;simp -implicitDefEqProofs only[go_sem,seval,↓reduceIte];refine (Zud G hG _ vars hv).mono ?_;rintro _ _ rfl
 cases q3:Zx8 vars.l with
 | false =>
  simp -implicitDefEqProofs only[go_sem,seval,↓reduceIte,q3];refine hK _ ?_;clear hK K;refine Za (by simp -implicitDefEqProofs only[go_sem,seval,↓reduceIte];rfl) (fun h34=>?_) (fun h34=>?_);rotate_left
  ·cases h34
  refine Zh fun K hK=>AW.region (by kernel_rfl) ?_;simp -implicitDefEqProofs only[go_sem,seval,↓reduceIte];refine CallA.pure hG (by kernel_rfl) ?_;simp -implicitDefEqProofs only[go_sem,seval,↓reduceIte,List.map_nil];refine (Zaa G hE).mono ?_;rintro _ _ rfl;simp -implicitDefEqProofs only[go_sem,seval,↓reduceIte];refine hK _ ?_;clear hK K;refine AW.ret ?_;simp -implicitDefEqProofs only[go_sem,seval,↓reduceIte];refine Zia ?_;rfl
 | true =>
 simp -implicitDefEqProofs only[go_sem,seval,↓reduceIte,q3];refine CallA.pure hG (by kernel_rfl) ?_;simp -implicitDefEqProofs only[go_sem,seval,↓reduceIte];refine (Zud G hG _ events hev).mono ?_;rintro _ _ rfl
 cases q4:Zx8 events.l with
 | false =>
  simp -implicitDefEqProofs only[go_sem,seval,↓reduceIte,q4];refine hK _ ?_;clear hK K;refine Za (by simp -implicitDefEqProofs only[go_sem,seval,↓reduceIte];rfl) (fun h34=>?_) (fun h34=>?_);rotate_left
  ·cases h34
  refine Zh fun K hK=>AW.region (by kernel_rfl) ?_;simp -implicitDefEqProofs only[go_sem,seval,↓reduceIte];refine CallA.pure hG (by kernel_rfl) ?_;simp -implicitDefEqProofs only[go_sem,seval,↓reduceIte,List.map_nil];refine (Zaa G hE).mono ?_;rintro _ _ rfl;simp -implicitDefEqProofs only[go_sem,seval,↓reduceIte];refine hK _ ?_;clear hK K;refine AW.ret ?_;simp -implicitDefEqProofs only[go_sem,seval,↓reduceIte];refine Zia ?_;rfl
 | true =>
 simp -implicitDefEqProofs only[go_sem,seval,↓reduceIte,q4];refine hK _ ?_;clear hK K;refine Za (by simp -implicitDefEqProofs only[go_sem,seval,↓reduceIte];rfl) (fun h34=>?_) (fun h34=>?_)
 ·cases h34
 refine AW.skip ?_;simp -implicitDefEqProofs only[go_sem,seval,↓reduceIte];refine hK1 _ ?_;have hal:=(Zcl q1).1;have hbl:=(Zcl q2).1;have hvl:=(Zbl q3).1;have hel:=(Zbl q4).1;have hap:=Z6z q1 ia;have hbp:=Z6z q2 ib;have hac:=Z8w q1;have haB:∀ x∈a.l,AmB x:=fun x hx=>(hap x hx).b;have haO:=Z7z (by omega) hap;have hbx:∀ x∈b.l,x.x.l.length<1000000:=fun x hx=>(hbp x hx).b.l;have hax:∀ x∈a.l,x.x.l.length<1000000:=fun x hx=>(hap x hx).b.l;generalize hva:a.l.map AM.v=va at hac;have hvb:∃ vb,b.l.map AM.v=vb:=⟨_,rfl⟩;obtain ⟨vb,hvb⟩:=hvb;have hsa:(amS va).l.map AM.v=va:=Zqh va;have hsb:(amS vb).l.map AM.v=vb:=Zqh vb
 have hlenA:(amS va).l.length=a.l.length:=by rw [Zug,← hva,List.length_map,List.length_map]
 have hlenB:(amS vb).l.length=b.l.length:=by rw [Zug,← hvb,List.length_map,List.length_map]
 have hoA:∀ x∈(amS va).l,AmP x:=by
  intro x hx;rw [Zug,← hva,List.map_map] at hx;obtain ⟨y,hy,rfl⟩:=List.mem_map.1 hx;have:=hap y hy;exact ⟨this.n,by show (Zea y.x.l).l.length<_;rw [Zza];exact this.l,by show ∀ n∈(Zea y.x.l).l,_;rw [Zza];exact this.x,by show ∀ n∈(Zea y.x.l).l,_;rw [Zza];exact this.m⟩
 have hoAx:∀ x∈(amS va).l,x.x.l.length<1000000:=fun x hx=>(hoA x hx).b.l;refine Zh fun K hK=>AW.region (by kernel_rfl) ?_;simp -implicitDefEqProofs only[go_sem,seval,↓reduceIte];refine CallA.pure hG (by kernel_rfl) ?_;simp -implicitDefEqProofs only[go_sem,seval,↓reduceIte,Zw];refine (Zih G hE _ _ a (by omega) hap (by rw [hva];omega)).mono ?_;rintro _ _ rfl;rw [hva];generalize hpr:printA va=pr;obtain ⟨pt,pe⟩:=pr;simp -implicitDefEqProofs only[go_sem,seval,↓reduceIte,encPr];refine hK _ ?_;clear hK K;refine Zh fun K hK=>AW.region (by kernel_rfl) ?_;simp -implicitDefEqProofs only[go_sem,seval,↓reduceIte];refine CallA.pure hG (by kernel_rfl) ?_;simp -implicitDefEqProofs only[go_sem,seval,↓reduceIte,Zw];refine (Zmc G hG _ _ a (by omega) hax).mono ?_;rintro _ _ rfl;rw [hva,Ztm];refine CallA.pure hG (by kernel_rfl) ?_;simp -implicitDefEqProofs only[go_sem,seval,↓reduceIte,Zw];refine (Zc0 G hG _ _ (amS va) (by omega) hoA).mono ?_;rintro _ _ rfl;rw [hsa,hpr];simp -implicitDefEqProofs only[go_sem,seval,↓reduceIte,encPr];refine hK _ ?_;clear hK K;refine Zh fun K hK=>AW.region (by kernel_rfl) ?_;simp -implicitDefEqProofs only[go_sem,seval,↓reduceIte];refine CallA.pure hG (by kernel_rfl) ?_;simp -implicitDefEqProofs only[go_sem,seval,↓reduceIte,Zw];refine (Zfe G hE _ _ _ _ a vars events (by omega) haB (by omega) (by omega)).mono ?_;rintro _ _ rfl;rw [hva];generalize hty:Zxf va vars.l events.l=ty;obtain ⟨tn,te⟩:=ty
 simp -implicitDefEqProofs only[go_sem,seval,↓reduceIte,encTy];refine hK _ ?_;clear hK K;refine Zh fun K hK=>AW.region (by kernel_rfl) ?_;simp -implicitDefEqProofs only[go_sem,seval,↓reduceIte];refine CallA.pure hG (by kernel_rfl) ?_;simp -implicitDefEqProofs only[go_sem,seval,↓reduceIte,Zw];refine (Zmc G hG _ _ a (by omega) hax).mono ?_;rintro _ _ rfl;rw [hva,Ztm];refine CallA.pure hG (by kernel_rfl) ?_;simp -implicitDefEqProofs only[go_sem,seval,↓reduceIte,Zw];refine (Z9z G hG _ _ _ _ (amS va) vars events (Z7z (by omega) hoA) (by omega) (by omega)).mono ?_;rintro _ _ rfl;rw [hsa,hty];simp -implicitDefEqProofs only[go_sem,seval,↓reduceIte,encTy];refine hK _ ?_;clear hK K;generalize hck:Zab va=ck
 have e1:(pt==pt)=true:=by simp
 have e2:(pe==pe)=true:=by simp
 have e3:(tn==tn)=true:=by simp
 have e4:(te==te)=true:=by simp
 have e5:(ck==ck)=true:=by simp
 have e6:((va==vb)==(va==vb))=true:=by simp
 refine AW.weak (Z2 (fun _=>false) (l:=[(4,.ptr 4 g4 0),(5,.ptr 5 g5 0),(9,.str pt),(10,.int .i64 pe),(11,.str pt),(12,.int .i64 pe),(13,.int .i64 tn),(14,.int .i64 te),(15,.int .i64 tn),(16,.int .i64 te)])
  (m:=[(4,.cells .new g4 0 [Zd c 3 (Z6 c1) a]),(5,.cells .new g5 0 [Zd d 3 (Z6 d1) b])]) ?_ ?_) ?_
 ·simp -implicitDefEqProofs only[go_sem,seval,↓reduceIte]
  repeat' apply And.intro
  all_goals exact Ze _
 ·simp only [Zp,Zz,and_true]
  exact ⟨FzO.keep rfl (by simp -implicitDefEqProofs only[go_sem,seval,↓reduceIte];try rfl),FzO.keep rfl (by simp -implicitDefEqProofs only[go_sem,seval,↓reduceIte];try rfl)⟩
 refine Zh fun K hK=>Z5 ⟨fun i=>if i=20 then .int .i64 ck else if i=22 then Zd .new 3 (Z6 .new) (amS va) else if i=23 then .int .i64 ck else if i=29 then .bool (va==vb) else if i=31 then Zd .new 3 (Z6 .new) (amS va) else if i=33 then Zd .new 3 (Z6 .new) (amS vb) else if i=34 then .bool (va==vb) else .bool true,fun _ => .pure⟩ (by kernel_rfl) hG (by kernel_rfl) (by kernel_rfl) ?_;simp -implicitDefEqProofs only[go_sem,seval,↓reduceIte,e1,e2,e3,e4,e5,e6]
 have eaa:(va==va)=true:=by simp
 have pRa:Zni Tryz.prog G 16 [.agg [Zd c 3 (Z6 c1) a]] (Zd .new 3 (Z6 .new) (amS va)):=⟨by kernel_rfl,by
  simp -implicitDefEqProofs only[go_sem,seval,↓reduceIte,Zw,List.map_cons,List.map_nil]
  exact (Zmc G hG _ _ a (by omega) hax).mono fun v _ e=>by rw [e,hva,Ztm]⟩
 have pRb:Zni Tryz.prog G 16 [.agg [Zd d 3 (Z6 d1) b]] (Zd .new 3 (Z6 .new) (amS vb)):=⟨by kernel_rfl,by
  simp -implicitDefEqProofs only[go_sem,seval,↓reduceIte,Zw,List.map_cons,List.map_nil]
  exact (Zmc G hG _ _ b (by omega) hbx).mono fun v _ e=>by rw [e,hvb,Ztm]⟩
 refine ⟨⟨by kernel_rfl,?_⟩,pRa,⟨by kernel_rfl,?_⟩,⟨by kernel_rfl,?_⟩,pRa,pRb,⟨by kernel_rfl,?_⟩,⟨by kernel_rfl,?_⟩,⟨by kernel_rfl,?_⟩,?_⟩
 ·simp -implicitDefEqProofs only[go_sem,seval,↓reduceIte,Zw,List.map_cons,List.map_nil]
  exact (Zge G hE _ _ a (by omega) haB).mono fun v _ e=>by rw [e,hva,hck];rfl
 ·simp -implicitDefEqProofs only[go_sem,seval,↓reduceIte,Zw,List.map_cons,List.map_nil]
  exact (Zck G hG _ _ (amS va) (Z7z (by omega) hoA)).mono fun v _ e=>by rw [e,hsa,hck];rfl
 ·simp -implicitDefEqProofs only[go_sem,seval,↓reduceIte,Zw,List.map_cons,List.map_nil]
  exact (Zkm G hG _ _ _ _ a b (by omega) hax).mono fun v _ e=>by rw [e,hva,hvb];rfl
 ·simp -implicitDefEqProofs only[go_sem,seval,↓reduceIte,Zw,List.map_cons,List.map_nil]
  exact (Z9i G hG _ _ _ _ (amS va) (amS vb) (by omega) hoAx).mono fun v _ e=>by rw [e,hsa,hsb];rfl
 ·simp -implicitDefEqProofs only[go_sem,seval,↓reduceIte,Zw,List.map_cons,List.map_nil]
  exact (Zkm G hG _ _ _ _ a a (by omega) hax).mono fun v _ e=>by rw [e,hva,eaa];rfl
 ·simp -implicitDefEqProofs only[go_sem,seval,↓reduceIte,List.map_nil]
  exact (Zaa G hE).mono fun v _ e=>by rw [e];rfl
 refine hK _ ?_;clear hK K;refine AW.ret ?_;simp -implicitDefEqProofs only[go_sem,seval,↓reduceIte];refine Zia ?_;rfl
end Go.Hs
end

section
namespace Go.Hs
open Go.Proofs
set_option maxRecDepth 10000
theorem amS_amp {l:List AM} (h:∀ a∈l,AmP a):∀ x∈(amS (l.map AM.v)).l,AmP x:=by
 intro x hx;rw [Zug,List.map_map] at hx;obtain ⟨y,hy,rfl⟩:=List.mem_map.1 hx;have:=h y hy;exact ⟨this.n,by show (Zea y.x.l).l.length<_;rw [Zza];exact this.l,by show ∀ n∈(Zea y.x.l).l,_;rw [Zza];exact this.x,by show ∀ n∈(Zea y.x.l).l,_;rw [Zza];exact this.m⟩
theorem Za2 (G:Nat→V) (hE:GExp G) (a:Sl AM) (ia:∀ x∈a.l,∀ n∈x.x.l,InK .i64 n.num) (s:List UInt8) (c c1:Col) :
  Spec Tryz.prog G 6 [.agg [Zd c 3 (Z6 c1) a],.str s] Zl (fun v _=>v = .bool true):=by
 have hG:=hE.ok;refine Zo 0 87 [.tmp 4] Tryz.func6 fun X=>?_;refine Z1 ?_;intro g2;refine Z1 ?_;refine Znf @Zw hG ?_ (s:=(Zmj G hG _ _ a))
 cases q1:Zy8 a.l with
 | false =>
  refine Zsf q1 ?_;refine Z1 ?_;refine Zc hG ?_ (s:=(Zaa G hE));exact Zr
 | true =>
 by_cases hl:s.length > 600
 ·have q2:decide (((s.length:Nat):Int) > 600)=true:=zT
  refine Zsf (zi q1 q2) ?_;refine Z1 ?_;refine Zc hG ?_ (s:=(Zaa G hE));exact Zr
 have q2:decide (((s.length:Nat):Int) > 600)=false:=zF;refine Zsf (zi q1 q2) ?_;refine Z0 ?_;have hal:=(Zcl q1).1;have hap:=Z6z q1 ia;have hac:=Z8w q1;have hx:=Zeb G hE s (by omega);have hb:=Ztf (s:=s) (by omega);have hchk := @Zrf s;generalize Z0b s=p at hx hb hchk;obtain ⟨l,wi,we⟩:=p;simp only at hb hchk;refine Z1 ?_;refine Zn hG ?_ (s:=hx);refine Zsf (zi @encBP.eq_1 (zi @encABs.eq_1 (zi @Zob @Zw))) ?_;intro g5
 refine Z9 (fun (x:(Col × Col) × Sl AM)=>st [(5,.ptr 5 g5 0),(7,.int .i64 we)] [(5,.cells .new g5 0 [Zd x.1.1 3 (Z6 x.1.2) x.2])])
  (fun x=>x.2.l.length<100000∧(∀ y∈x.2.l,AmP y)∧Z4j (x.2.l.map AM.v)≤65536∧(Zab (x.2.l.map AM.v)≠0→we≠0)) (fun K2 hK2=>?_) ?_
 ·by_cases he:we=0
  ·have q3:(we==0)=true:=by simpa using he
   refine Zdc (by kernel_rfl) ?_;simp -implicitDefEqProofs only[go_sem,seval,↓reduceIte,bne,q3];refine Z0 ?_;refine hK2 _ ((.new,.new),amS l) ⟨?_,hb.amp,?_,?_⟩ (Zb zp zp)
   ·show (amS l).l.length<_;rw [Zug,List.length_map];exact hb.k
   ·show Z4j ((amS l).l.map AM.v)≤_;rw [Zqh];exact hb.c
   ·show Zab ((amS l).l.map AM.v)≠0→_
    rw [Zqh];exact fun h=>absurd (hchk he) h
  ·have q3:(we==0)=false:=by simpa using he
   refine Zdc (by kernel_rfl) ?_;simp -implicitDefEqProofs only[go_sem,seval,↓reduceIte,bne,q3];refine Z1 ?_;exact hK2 _ ((c,c1),a) ⟨by show a.l.length<_;omega,hap,hac,fun _=>he⟩ (Zb zp zp)
 rintro ⟨⟨cb,cb1⟩,B⟩ ⟨hBl,hBp,hBc,hBk⟩;simp only at hBl hBp hBc hBk;generalize hBv:B.l.map AM.v=bv at hBc hBk;have hBb:∀ y∈B.l,AmB y:=fun y hy=>(hBp y hy).b;have hBx:∀ y∈B.l,y.x.l.length<1000000:=fun y hy=>(hBp y hy).b.l
 have hBn:∀ t∈bv,∀ n∈t.x,n.num≤9223372036854775807:=by
  intro t ht n hn;rw [← hBv] at ht;obtain ⟨y,hy,rfl⟩:=List.mem_map.1 ht;exact (hBp y hy).m n hn
 refine Z1 ?_;refine Znf @Zw hG ?_ (s:=(Zge G hE _ _ B (by omega) hBb));rw [hBv]
 by_cases hck:Zab bv=0
 rotate_left
 ·have he:=hBk hck
  have q4:(Zab bv==0)=false:=by simpa using hck
  have q5:(we==0)=false:=by simpa using he
  simp -implicitDefEqProofs only[go_sem,seval,↓reduceIte,bne,q4];refine Zpe rfl ?_;refine Zdc (by kernel_rfl) ?_;simp -implicitDefEqProofs only[go_sem,seval,↓reduceIte,bne,q5];refine Zc hG ?_ (s:=(Zaa G hE));exact Zr
 have q4:(Zab bv==0)=true:=by simpa using hck
 simp -implicitDefEqProofs only[go_sem,seval,↓reduceIte,bne,q4];refine Z0 ?_;obtain ⟨hp1,hp2⟩:=Zh4 hck hBn hBc;have htl:(Zha (bv.map sT)).length≤65536:=Nat.le_trans (Z3q hck hBn) hBc;generalize Zha (bv.map sT)=t at hp1 hp2 htl;have hC:(amS bv).l.map AM.v=bv:=Zqh bv
 have hCl:(amS bv).l.length=B.l.length:=by rw [Zug,← hBv,List.length_map,List.length_map]
 have hCp:∀ x∈(amS bv).l,AmP x:=by rw [← hBv];exact amS_amp hBp
 have hCx:∀ y∈(amS bv).l,y.x.l.length<1000000:=fun y hy=>(hCp y hy).b.l;refine Z1 ?_;refine Znf @Zw hG ?_ (s:=(Zih G hE _ _ B (by omega) hBp (by rw [hBv];omega)));rw [hBv,hp1];refine Zsf @encPr.eq_1 ?_;refine Z1 ?_;refine Zn hG ?_ (s:=(Zeb G hE t (by omega)));rw [hp2];refine Zsf (zi @encBP.eq_1 (zi @encABs.eq_1 (zi @Zob @Zw))) ?_;intro g10;refine Z1 ?_;refine Znf @Zw hG ?_ (s:=(Zih G hE _ _ (amS bv) (by omega) hCp (by rw [hC];omega)));rw [hC,hp1];refine Zsf @encPr.eq_1 ?_
 refine AW.weak (Z2 (fun _=>false) (l:=[(5,.ptr 5 g5 0),(8,.str t),(9,.int .i64 0),(10,.ptr 10 g10 0),(12,.int .i64 0),(13,.str t),(14,.int .i64 0)])
  (m:=[(5,.cells .new g5 0 [Zd cb 3 (Z6 cb1) B]),(10,.cells .new g10 0 [Zd .new 3 (Z6 .new) (amS bv)])]) ?_ ?_) ?_
 ·refine Zs ?_
  repeat' apply And.intro
  all_goals exact Ze _
 ·simp only [Zp,Zz,and_true]
  exact ⟨FzO.keep rfl zp,FzO.keep rfl zp⟩
 have e1:(t==t)=true:=by simp
 have ebb:(bv==bv)=true:=by simp
 refine Zy <| Z5 ⟨fun i=>if i=17 then Zd .new 3 (Z6 .new) (amS bv) else if i=19 then Zd .new 3 (Z6 .new) (amS bv) else .bool true,fun _ => .pure⟩ (by kernel_rfl) hG (by kernel_rfl) (by kernel_rfl) ?_
 refine Zsf e1 ?_;refine ⟨⟨by kernel_rfl,?_⟩,⟨by kernel_rfl,?_⟩,⟨by kernel_rfl,?_⟩,⟨by kernel_rfl,?_⟩,⟨by kernel_rfl,?_⟩,?_⟩
 ·simp -implicitDefEqProofs only[go_sem,seval,↓reduceIte,Zw,List.map_cons,List.map_nil]
  exact (Zkm G hG _ _ _ _ B (amS bv) (by omega) hBx).mono fun v _ e=>by rw [e,hBv,hC,ebb]<;>rfl
 ·simp -implicitDefEqProofs only[go_sem,seval,↓reduceIte,Zw,List.map_cons,List.map_nil]
  exact (Zmc G hG _ _ B (by omega) hBx).mono fun v _ e=>by rw [e,hBv,Ztm]
 ·simp -implicitDefEqProofs only[go_sem,seval,↓reduceIte,Zw,List.map_cons,List.map_nil]
  exact (Zmc G hG _ _ (amS bv) (by omega) hCx).mono fun v _ e=>by rw [e,hC,Ztm]
 ·simp -implicitDefEqProofs only[go_sem,seval,↓reduceIte,Zw,List.map_cons,List.map_nil]
  exact (Z9i G hG _ _ _ _ (amS bv) (amS bv) (by omega) hCx).mono fun v _ e=>by rw [e,hC,ebb]<;>rfl
 ·simp -implicitDefEqProofs only[go_sem,seval,↓reduceIte,List.map_nil]
  exact (Zaa G hE).mono fun v _ e=>by rw [e]<;>rfl
 exact Zr
end Go.Hs
end

section
namespace Go.Hs
open Go.Proofs
set_option maxRecDepth 10000
theorem Zlv (G:Nat→V) (hG:GOk G) (c c1:Col) (s:Sl AM) (hs:s.l.length<1000000) (hx:∀ a∈s.l,a.x.l.length<1000000) :
  InSp Tryz.prog G 16 [.agg [Zd c 3 (Z6 c1) s]] (Zub Zl [(7061,.dead)]) (fun v H'=>∃ g,v=grown 7061 g 3 (s.l.map AM.v)∧H' 7061=Zjb g (Zsa .new) (s.l.map AM.v)):=by
 refine Zye 7000 63 [.tmp 2] Tryz.func16 rfl rfl rfl rfl fun X=>?_;simp only [Zub];refine Z1 ?_;intro g1;refine Z1 ?_;refine Z1 ?_;refine AW.block ?_
 refine Zua s.l.length (fun k (gx:Nat)=>st [(1,.ptr 7001 g1 0),(3,grown 7061 gx 3 ((s.l.take k).map AM.v)),(4,.int .i64 k)] [(7001,.cells .new g1 0 [Zd c 3 (Z6 c1) s]),(7061,Zjb gx (Zsa .new) ((s.l.take k).map AM.v))])
  (fun k _=>True) 0 0 (Nat.zero_le _) trivial
  (Zb zp zp) ?_
 intro k gx hk _ L3 hL3;refine Z1 ?_;refine Za rfl (fun h13=>?_) (fun h13=>?_);rotate_left
 ·have hk1:k=s.l.length:=by have:=zN h13;omega
  refine Z0 ?_;rw [hk1,List.take_length];refine Z ?_;exact ⟨gx,rfl,by simp -implicitDefEqProofs only[go_sem,seval,↓reduceIte];try rfl⟩
 have hk1:k<s.l.length:=zL h13;have hg:=List.getElem?_eq_getElem hk1;have hxa:=hx _ (List.getElem_mem hk1)
 have htk:(s.l.take (k+1)).map AM.v=(s.l.take k).map AM.v++[(s.l[k]).v]:=by rw [List.take_succ_eq_append_getElem hk1,List.map_append]<;>rfl
 have hlt:((s.l.take k).map AM.v).length=k:=by rw [List.length_map,List.length_take];omega
 generalize s.l[k]=a at hg hxa htk;generalize (s.l.take k).map AM.v=acc at htk hlt ⊢;refine Z1f (zi hg @Zpa) ?_;intro g5;refine Z1 ?_;intro g6;refine Z1 ?_;refine AW.block ?_
 refine Zua a.x.l.length (fun j (gy:Nat)=>st [(1,.ptr 7001 g1 0),(3,grown 7061 gx 3 acc),(4,.int .i64 k),(5,.ptr 7005 g5 0),(6,.ptr 7006 g6 0),(7,.int .i64 j)]
   [(7001,.cells .new g1 0 [Zd c 3 (Z6 c1) s]),(7061,Zjb gx (Zsa .new) acc),(7005,.cells .new g5 0 [.int .u8 a.kind,.str a.name,Zd c1 6 Zca a.x]),(7006,.cells .new g6 0 [.int .u8 a.kind,.str a.name,grown 7056 gy 6 (a.x.l.take j)]),(7056,Zjb gy Zca (a.x.l.take j))])
  (fun j _=>True) 0 0 (Nat.zero_le _) trivial
  (Zb zp (by simp -implicitDefEqProofs only[go_sem,seval,↓reduceIte];exact ⟨rfl,rfl⟩)) ?_
 intro j gy hj _ L7 hL7;refine Z1 ?_;refine Za rfl (fun h31=>?_) (fun h31=>?_);rotate_left
 ·have hj1:j=a.x.l.length:=by have:=zN h31;omega
  refine Z0 ?_;rw [hj1,List.take_length];refine AW.weak (Z2 (fun o=>o==7056) (l:=[(1,.ptr 7001 g1 0),(3,grown 7061 gx 3 acc),(4,.int .i64 k),(6,.ptr 7006 g6 0)]) (m:=[(7001,.cells .new g1 0 [Zd c 3 (Z6 c1) s]),(7061,Zjb gx (Zsa .new) acc),(7006,.cells .new g6 0 [.int .u8 a.kind,.str a.name,Zd .new 6 Zca (Zea a.x.l)])]) ?_ ?_) ?_
  ·refine Zs ?_
   exact ⟨Ze _,Ze _,Ze _,Ze _⟩
  ·simp only [Zp,Zz,and_true]
   exact ⟨FzO.keep rfl zp,FzO.keep rfl zp,Zol (c := .new) (fz:=0) (cs:=[.int .u8 a.kind,.str a.name,grown 7056 gy 6 a.x.l]) rfl zp ⟨Ze _,Ze _,Zyb rfl zp Z5c,trivial⟩⟩
  refine Z1 ?_;intro g60;refine Zpb (f:=Zsa .new) (l:=acc) (l2:=[a.v]) (g:=gx) (Zxa _) rfl rfl rfl zp (Zda (by omega) (by simp;omega)) fun g2=>?_;refine Zs ?_;refine Z1 ?_;refine hL3 _ ⟨hk1,g2,trivial,Zb (by simp -implicitDefEqProofs only[go_sem,seval,↓reduceIte];exact ⟨by rw [htk],congrArg _ (w64 (by omega) (by omega))⟩) (by simp -implicitDefEqProofs only[go_sem,seval,↓reduceIte];rw [htk];try rfl)⟩
 have hj1:j<a.x.l.length:=zL h31;have hgj:=List.getElem?_eq_getElem hj1
 have htj:a.x.l.take (j+1)=a.x.l.take j++[a.x.l[j]]:=by rw [List.take_succ_eq_append_getElem hj1]
 have hlj:(a.x.l.take j).length=j:=by rw [List.length_take];omega
 generalize a.x.l[j]=n at hgj htj;generalize a.x.l.take j=ns at htj hlj ⊢;refine Z1f (zi hgj @Zt) ?_;intro g8;refine Z1 ?_;intro g55;refine Zpb (f:=Zca) (l:=ns) (l2:=[n]) (g:=gy) Z5c rfl rfl rfl zp (Zda (by omega) (by simp;omega)) fun g2=>?_;refine Zs ?_;refine Z1 ?_;refine hL7 _ ⟨hj1,g2,trivial,Zb zw (by simp -implicitDefEqProofs only[go_sem,seval,↓reduceIte];rw [htj];try exact ⟨rfl,rfl⟩)⟩
end Go.Hs
end
