/- Part 47 of the proof of a statement of seat YtohdjmgdaaipaaaGreatDoor: HsHActE HsHActF HsHActG HsHActT HsHActH HsHActI HsHActW HsHActW2 HsHActW3 HsHActS4 HsHActL2 HsHExpLaid HsHExpLaidG HsHExpArgs HsHExpArgs2 HsHActArgs HsHSeatF. -/
import Derived.Test.YtohdjmgdaaipaaaGreatDoorPart45
import Derived.Test.YtohdjmgdaaipaaaGreatDoorPart46
import Derived.Test.YtohdjmgdaaipaaaGreatDoorPart43
import Derived.Test.YtohdjmgdaaipaaaGreatDoorPart41
import Derived.Test.YtohdjmgdaaipaaaGreatDoorPart29
import Derived.Test.YtohdjmgdaaipaaaGreatDoorPart31
import Derived.Test.YtohdjmgdaaipaaaGreatDoorRows
import Derived.ProofKit
import Derived.OpenShut
import Derived.LaidLaws
import Derived.Stop.LaidErr
import Derived.Lib.LaidTab
import Derived.Handed
import Derived.ChangeMaps5
import Derived.Test.YtohdjmgdaaipaaaGreatDoorCards
set_option linter.unusedSimpArgs false
set_option linter.unusedVariables false
section
namespace Go.Hs
open Go.Proofs
set_option maxRecDepth 10000
theorem recol_as (F:Col→Col) (c:Col) (s:ASt):(encAS c s).recol F=encAS (F c) s:=by simp only [encAS_K,recol_agg,List.map_cons,List.map_nil,recol_int,recol_str,recol_xns]
def sdO (gx:Nat) (l:List ASt):AObj:=grownO gx (encAS .new) l
def rdS (l:List Tk) (i:Nat) (acc:List ASt):Bool × CU × List ASt :=
 if acc.length=512 then (false,⟨i,3⟩,acc) else ((stmtP l i).2.2==0,⟨(stmtP l i).2.1.toNat,(stmtP l i).2.2⟩,acc++[(stmtP l i).1])
theorem aStatement_spec (G:Nat→V) (hE:GExp G) (sl:Sl Tk) (hT:TkOk sl.l) (g:Nat) (i:Nat) (hi:i<sl.l.length) (acc:List ASt) (hac:acc.length≤512) (gx:Nat) :
  InSp Tryz.prog G 41 [.ptr 21 g 0] (sets hNone [(21,cuO sl g (grown 1038 gx 3 acc) ⟨i,0⟩),(1038,sdO gx acc)])
   (fun v H'=>v = .bool (rdS sl.l i acc).1∧∃ gx',H' 21=cuO sl g (grown 1038 gx' 3 (rdS sl.l i acc).2.2) (rdS sl.l i acc).2.1∧H' 1038=sdO gx' (rdS sl.l i acc).2.2):=by
 have hG:=hE.ok;have hTl:=hT.len
 have hP:rdS sl.l i acc=if acc.length=512 then (false,⟨i,3⟩,acc) else ((stmtP sl.l i).2.2==0,⟨(stmtP sl.l i).2.1.toNat,(stmtP sl.l i).2.2⟩,acc++[(stmtP sl.l i).1]):=rfl
 generalize rdS sl.l i acc=res at hP ⊢;refine InSp.of_code' 1000 42 [.tmp 2] Tryz.func41 rfl rfl rfl rfl fun X=>?_;simp only [sets];refine AW.seq_k fun K hK=>AW.region (by kernel_rfl) ?_;simp -implicitDefEqProofs only[go_sem,seval,↓reduceIte];refine hK _ ?_;clear hK K;refine AW.seq_k fun K hK=>AW.region (by kernel_rfl) ?_;simp -implicitDefEqProofs only[go_sem,seval,↓reduceIte];refine hK _ ?_;clear hK K
 by_cases h5:acc.length=512
 ·rw [if_pos h5] at hP
  have q1:((acc.length:Int)==512)=true:=by rw [beq_iff_eq];omega
  refine AW.seq_k fun K1 hK1=>?_;refine AW.block ?_;refine AW.seq_k fun K hK=>AW.region (by kernel_rfl) ?_;simp -implicitDefEqProofs only[go_sem,seval,↓reduceIte,cuO_K,q1];refine hK _ ?_;clear hK K;refine AW.condS (by simp -implicitDefEqProofs only[go_sem,seval,↓reduceIte];rfl) (fun h8=>?_) (fun h8=>?_);rotate_left
  ·cases h8
  refine AW.seq_k fun K hK=>AW.region (by kernel_rfl) ?_;simp -implicitDefEqProofs only[go_sem,seval,↓reduceIte,cuO_K];refine hK _ ?_;clear hK K;refine AW.seq_k fun K hK=>AW.region (by kernel_rfl) ?_;simp -implicitDefEqProofs only[go_sem,seval,↓reduceIte];refine hK _ ?_;clear hK K;refine AW.ret ?_;simp -implicitDefEqProofs only[go_sem,seval,↓reduceIte];refine endK_some ?_;rw [hP];exact ⟨rfl,gx,by simp -implicitDefEqProofs only[go_sem,seval,↓reduceIte];try rfl,by simp -implicitDefEqProofs only[go_sem,seval,↓reduceIte];try rfl⟩
 rw [if_neg h5] at hP
 have q1:((acc.length:Int)==512)=false:=by rw [beq_eq_false_iff_ne];omega
 refine AW.seqJ (fun (_:Unit)=>st [(0,.ptr 21 g 0),(3,.func (.func (if txtP sl.l i=emitW then 90 else 88)) [.ptr 21 g 0] [])] [(21,cuO sl g (grown 1038 gx 3 acc) ⟨i,0⟩),(1038,sdO gx acc)]) (fun _=>True) (fun K1 hK1=>?_) ?_
 ·refine AW.block ?_
  refine AW.seq_k fun K hK=>AW.region (by kernel_rfl) ?_;simp -implicitDefEqProofs only[go_sem,seval,↓reduceIte,cuO_K,q1];refine hK _ ?_;clear hK K;refine AW.condS (by simp -implicitDefEqProofs only[go_sem,seval,↓reduceIte];rfl) (fun h8=>?_) (fun h8=>?_)
  ·cases h8
  refine AW.seq_k fun K hK=>AW.region (by kernel_rfl) ?_;simp -implicitDefEqProofs only[go_sem,seval,↓reduceIte];refine CuS.call hG (cComes_spec G hG sl g ⟨i,0⟩ emitW) (fun F=>recol_grown F _ _ _ _) (by kernel_rfl) rfl rfl (by first | rfl | (simp -implicitDefEqProofs only[go_sem,seval,↓reduceIte];try rfl)) ?_;rw [decide_eq_true hi,Bool.true_and];simp -implicitDefEqProofs only[go_sem,seval,↓reduceIte,sets];refine hK _ ?_;clear hK K
  by_cases hw:txtP sl.l i=emitW
  ·have q2:(txtP sl.l i==emitW)=true:=by simpa using hw
   rw [q2];rw [if_pos hw] at hK1;refine AW.condS (by simp -implicitDefEqProofs only[go_sem,seval,↓reduceIte];rfl) (fun h19=>?_) (fun h19=>?_);rotate_left
   ·cases h19
   refine AW.region (by kernel_rfl) ?_;simp -implicitDefEqProofs only[go_sem,seval,↓reduceIte];exact hK1 _ () trivial (Weak.st (by simp -implicitDefEqProofs only[go_sem,seval,↓reduceIte];try rfl) (by simp -implicitDefEqProofs only[go_sem,seval,↓reduceIte];try rfl))
  ·have q2:(txtP sl.l i==emitW)=false:=by simpa using hw
   rw [q2];rw [if_neg hw] at hK1;refine AW.condS (by simp -implicitDefEqProofs only[go_sem,seval,↓reduceIte];rfl) (fun h19=>?_) (fun h19=>?_)
   ·cases h19
   refine AW.skip ?_;simp -implicitDefEqProofs only[go_sem,seval,↓reduceIte];exact hK1 _ () trivial (Weak.st (by simp -implicitDefEqProofs only[go_sem,seval,↓reduceIte];try rfl) (by simp -implicitDefEqProofs only[go_sem,seval,↓reduceIte];try rfl))
 intro _ _
 have hstP:stmtP sl.l i=if txtP sl.l i=emitW then stmtQ sl.l 2 [40] [[41],[59]] (i+1) else stmtQ sl.l 1 [58,61] [[59]] i:=rfl
 by_cases hw:txtP sl.l i=emitW
 ·rw [if_pos hw] at hstP
  rw [if_pos hw];have hsp:=aEmit_spec G hE sl hT g i hw;rw [← hstP] at hsp;have hb:=(stmtP_b sl.l i).ge;generalize stmtP sl.l i=q at hP hsp hb;obtain ⟨x,m,e⟩:=q;simp only at hP hsp hb;generalize hn:m.toNat=n at hP hsp;refine AW.seq_k fun K hK=>AW.region (by kernel_rfl) ?_;simp -implicitDefEqProofs only[go_sem,seval,↓reduceIte];refine CuS.call hG hsp (fun F=>recol_grown F _ _ _ _) (by kernel_rfl) rfl (by first | rfl | (simp -implicitDefEqProofs only[go_sem,seval,↓reduceIte,encAS_K,recol_xns];try rfl)) (by first | rfl | (simp -implicitDefEqProofs only[go_sem,seval,↓reduceIte];try rfl)) ?_;simp -implicitDefEqProofs only[go_sem,seval,↓reduceIte,sets,encAS_K];intro g4;refine hK _ ?_;clear hK K;refine AW.seq_k fun K hK=>AW.regionT ⟨fun _ => .top,fun _ => .pure⟩ (by kernel_rfl) hG (by kernel_rfl) (by kernel_rfl) ?_;simp -implicitDefEqProofs only[go_sem,seval,↓reduceIte,cuO_K];intro g37;refine app_grown (f:=encAS .new) (l:=acc) (l2:=[x]) (g:=gx) (encAS_cells _) rfl rfl rfl (by simp -implicitDefEqProofs only[go_sem,seval,↓reduceIte];try rfl) (roomOk_of (by omega) (by simp;omega)) fun g2=>?_;simp -implicitDefEqProofs only[go_sem,seval,↓reduceIte];refine hK _ ?_;clear hK K;refine AW.seq_k fun K hK=>AW.region (by kernel_rfl) ?_;simp -implicitDefEqProofs only[go_sem,seval,↓reduceIte];refine hK _ ?_;clear hK K;refine AW.ret ?_;simp -implicitDefEqProofs only[go_sem,seval,↓reduceIte];refine endK_some ?_;rw [hP];exact ⟨rfl,g2,by simp -implicitDefEqProofs only[go_sem,seval,↓reduceIte];try rfl,by simp -implicitDefEqProofs only[go_sem,seval,↓reduceIte];try rfl⟩
 ·rw [if_neg hw] at hstP
  rw [if_neg hw];have hsp:=aAssign_spec G hE sl hT g i (by omega);rw [← hstP] at hsp;have hb:=(stmtP_b sl.l i).ge;generalize stmtP sl.l i=q at hP hsp hb;obtain ⟨x,m,e⟩:=q;simp only at hP hsp hb;generalize hn:m.toNat=n at hP hsp;refine AW.seq_k fun K hK=>AW.region (by kernel_rfl) ?_;simp -implicitDefEqProofs only[go_sem,seval,↓reduceIte];refine CuS.call hG hsp (fun F=>recol_grown F _ _ _ _) (by kernel_rfl) rfl (by first | rfl | (simp -implicitDefEqProofs only[go_sem,seval,↓reduceIte,encAS_K,recol_xns];try rfl)) (by first | rfl | (simp -implicitDefEqProofs only[go_sem,seval,↓reduceIte];try rfl)) ?_;simp -implicitDefEqProofs only[go_sem,seval,↓reduceIte,sets,encAS_K];intro g4;refine hK _ ?_;clear hK K;refine AW.seq_k fun K hK=>AW.regionT ⟨fun _ => .top,fun _ => .pure⟩ (by kernel_rfl) hG (by kernel_rfl) (by kernel_rfl) ?_;simp -implicitDefEqProofs only[go_sem,seval,↓reduceIte,cuO_K];intro g37;refine app_grown (f:=encAS .new) (l:=acc) (l2:=[x]) (g:=gx) (encAS_cells _) rfl rfl rfl (by simp -implicitDefEqProofs only[go_sem,seval,↓reduceIte];try rfl) (roomOk_of (by omega) (by simp;omega)) fun g2=>?_;simp -implicitDefEqProofs only[go_sem,seval,↓reduceIte];refine hK _ ?_;clear hK K;refine AW.seq_k fun K hK=>AW.region (by kernel_rfl) ?_;simp -implicitDefEqProofs only[go_sem,seval,↓reduceIte];refine hK _ ?_;clear hK K;refine AW.ret ?_;simp -implicitDefEqProofs only[go_sem,seval,↓reduceIte];refine endK_some ?_;rw [hP];exact ⟨rfl,g2,by simp -implicitDefEqProofs only[go_sem,seval,↓reduceIte];try rfl,by simp -implicitDefEqProofs only[go_sem,seval,↓reduceIte];try rfl⟩
end Go.Hs
end

section
namespace Go.Hs
open Go.Proofs
set_option maxRecDepth 10000
theorem bodyF_rd {l:List Tk} {n f i:Nat} {acc:List ASt} (hi:i<l.length):bodyF l n (f+1) i acc =
  if (rdS l i acc).1=false then ([],placeP l n ((rdS l i acc).2.1.i:Int),(rdS l i acc).2.1.e) else bodyF l n f (rdS l i acc).2.1.i (rdS l i acc).2.2:=by
 rw [bodyF,if_neg (by omega)];unfold rdS
 by_cases h5:acc.length=512
 ·rw [if_pos h5,if_pos h5];rfl
 rw [if_neg h5,if_neg h5];have hb:=(stmtP_b l i).ge
 by_cases he:(stmtP l i).2.2=0
 ·rw [if_neg (by simpa using he),if_neg (by simp [he])]
 ·have q:((stmtP l i).2.2==0)=false:=by simpa using he
  rw [if_pos he,if_pos q];simp only [Int.toNat_of_nonneg (show 0≤(stmtP l i).2.1 by omega)]
theorem rdS_true {l:List Tk} {i:Nat} {acc:List ASt} (h:(rdS l i acc).1=true):(rdS l i acc).2.1.e=0∧i<(rdS l i acc).2.1.i∧(rdS l i acc).2.1.i≤l.length∧(rdS l i acc).2.2.length=acc.length+1∧acc.length≠512:=by
 unfold rdS at h ⊢
 by_cases h5:acc.length=512
 ·rw [if_pos h5] at h;cases h
 rw [if_neg h5] at h ⊢
 have he:(stmtP l i).2.2=0:=by simpa using h
 obtain ⟨h1,h2⟩:=(stmtP_b l i).ok he;refine ⟨he,?_,?_,by rw [List.length_append];rfl,h5⟩
 ·show i<(stmtP l i).2.1.toNat;omega
 ·show (stmtP l i).2.1.toNat≤l.length;omega
def encBP (r:List ASt × Int × Int):V := .tuple [.agg [encABs .new r.1],.int .i64 r.2.1,.int .i64 r.2.2]
theorem bParse_spec (G:Nat→V) (hE:GExp G) (s:List UInt8) (hs:s.length<100000):Spec Tryz.prog G 14 [.str s] hNone (fun v _=>v=encBP (bodyP s)):=by
 have hG:=hE.ok;refine Spec.of_code' 0 69 [.cell 2 29,.tmp 3,.tmp 4] Tryz.func14 rfl rfl rfl rfl fun X=>?_
 have hP:bodyP s=if (toksP s).2.2≠0 then (([]:List ASt),(toksP s).2.1,(toksP s).2.2) else bodyF (toksP s).1 s.length ((toksP s).1.length+1) 0 []:=rfl
 generalize bodyP s=res at hP ⊢;have hT:=toks_ok hs;have hl:=lTokens_spec G hE s hs;generalize toksP s=p at hP hT hl;obtain ⟨l,at0,e0⟩:=p;simp only at hP hT;have hTl:=hT.len;refine AW.seq_k fun K hK=>AW.region (by kernel_rfl) ?_;simp -implicitDefEqProofs only[go_sem,seval,↓reduceIte];intro g2;refine hK _ ?_;clear hK K;refine AW.seq_k fun K hK=>AW.region (by kernel_rfl) ?_;simp -implicitDefEqProofs only[go_sem,seval,↓reduceIte];refine CallA.pure hG (by kernel_rfl) ?_;simp -implicitDefEqProofs only[go_sem,seval,↓reduceIte];refine hl.mono ?_;rintro _ _ rfl;simp -implicitDefEqProofs only[go_sem,seval,↓reduceIte,encTok,encTks,recol_tks];have hS:(grownS l).l=l:=grownS_l l;generalize grownS l=S at hS;subst hS;refine hK _ ?_;clear hK K;refine AW.seq_k fun K1 hK1=>?_
 by_cases he:e0=0
 rotate_left
 ·rw [if_pos he] at hP
  have q1:(e0==0)=false:=by simpa using he
  refine AW.seq_k fun K hK=>AW.region (by kernel_rfl) ?_;simp -implicitDefEqProofs only[go_sem,seval,↓reduceIte,bne,q1];refine hK _ ?_;clear hK K;refine AW.condS (by simp -implicitDefEqProofs only[go_sem,seval,↓reduceIte];rfl) (fun h14=>?_) (fun h14=>?_);rotate_left
  ·cases h14
  refine AW.seq_k fun K hK=>AW.region (by kernel_rfl) ?_;simp -implicitDefEqProofs only[go_sem,seval,↓reduceIte];refine hK _ ?_;clear hK K;refine AW.ret ?_;simp -implicitDefEqProofs only[go_sem,seval,↓reduceIte];refine endK_some ?_;rw [hP];rfl
 rw [if_neg (by simpa using he)] at hP
 have q1:(e0==0)=true:=by simpa using he
 refine AW.seq_k fun K hK=>AW.region (by kernel_rfl) ?_;simp -implicitDefEqProofs only[go_sem,seval,↓reduceIte,bne,q1];refine hK _ ?_;clear hK K;refine AW.condS (by simp -implicitDefEqProofs only[go_sem,seval,↓reduceIte];rfl) (fun h14=>?_) (fun h14=>?_)
 ·cases h14
 refine AW.skip ?_;simp -implicitDefEqProofs only[go_sem,seval,↓reduceIte];refine hK1 _ ?_;refine AW.seq_k fun K hK=>AW.region (by kernel_rfl) ?_;simp -implicitDefEqProofs only[go_sem,seval,↓reduceIte];intro g21;refine hK _ ?_;clear hK K;refine AW.weak (Weak.stF (fun _=>false) (l:=[(0,.str s),(2,.ptr 2 g2 0),(5,encSl .new 3 encTk S),(6,.ptr 21 g21 0)]) (m:=[(2,.cells .new g2 0 [.nils]),(21,cuO S g21 .nils ⟨0,0⟩)]) ?_ ?_) ?_
 ·simp -implicitDefEqProofs only[go_sem,seval,↓reduceIte]
  exact ⟨Fz.same _,Fz.same _,Fz.same _,Fz.same _⟩
 ·simp only [allFzO_cons,allFzO_nil,and_true]
  exact ⟨FzO.keep rfl (by simp -implicitDefEqProofs only[go_sem,seval,↓reduceIte];try rfl),FzO.anyOf (c := .new) (fz:=0) (cs:=[encSl .new 3 encTk S,.int .i64 0,.int .i64 0,.nils]) rfl (by simp -implicitDefEqProofs only[go_sem,seval,↓reduceIte];try rfl) ⟨Fz.any (by simp -implicitDefEqProofs only[go_sem,seval,↓reduceIte,recol_tks]),Fz.same _,Fz.same _,Fz.same _,trivial⟩⟩
 refine AW.seq_k fun K2 hK2=>?_;refine AW.block ?_
 refine AW.while (fun (x:(Nat × Nat) × List ASt)=>st [(0,.str s),(2,.ptr 2 g2 0),(5,encSl .new 3 encTk S),(6,.ptr 21 g21 0)] [(2,.cells .new g2 0 [.nils]),(21,cuO S g21 (grown 1038 x.1.1 3 x.2) ⟨x.1.2,0⟩),(1038,sdO x.1.1 x.2)])
  (fun x=>x.1.2≤S.l.length∧x.2.length≤512∧∃ f,S.l.length<f+x.1.2∧bodyF S.l s.length f x.1.2 x.2=res) (fun x=>S.l.length-x.1.2) ((0,0),[]) ⟨Nat.zero_le _,Nat.zero_le _,S.l.length+1,Nat.lt_succ_self _,hP.symm⟩
  (Weak.st (by simp -implicitDefEqProofs only[go_sem,seval,↓reduceIte];try rfl) (by simp -implicitDefEqProofs only[go_sem,seval,↓reduceIte];first | rfl | exact ⟨rfl,rfl⟩)) ?_
 rintro ⟨⟨gx,i⟩,acc⟩ ⟨hi,hac,f,hf,hR⟩ L3 hL3;simp only at hi hac hf hR;refine AW.seq_k fun K4 hK4=>?_
 cases f with
 | zero=>omega
 | succ f =>
 refine AW.seq_k fun K hK=>AW.region (by kernel_rfl) ?_;simp -implicitDefEqProofs only[go_sem,seval,↓reduceIte,cuO_K];refine hK _ ?_;clear hK K;refine AW.condS (by simp -implicitDefEqProofs only[go_sem,seval,↓reduceIte];rfl) (fun h29=>?_) (fun h29=>?_);rotate_left
 ·have hil:S.l.length≤i:=by have h29:decide ((i:Int)<S.l.length)=false:=h29;simp at h29;omega
  rw [bodyF,if_pos hil] at hR;refine AW.exit ?_;simp -implicitDefEqProofs only[go_sem,seval,↓reduceIte];refine hK2 _ ?_;refine AW.weak (Weak.stF (fun o=>o==1038) (l:=[(2,.ptr 2 g2 0),(6,.ptr 21 g21 0)]) (m:=[(2,.cells .new g2 0 [.nils]),(21,.cells .any g21 0 [.top,.int .i64 i,.int .i64 0,encSl .new 3 (encAS .new) (grownS acc)])]) ?_ ?_) ?_
  ·simp -implicitDefEqProofs only[go_sem,seval,↓reduceIte]
   first | exact ⟨Fz.same _,Fz.same _⟩ | exact Fz.same _
  ·simp only [allFzO_cons,allFzO_nil,and_true]
   exact ⟨FzO.keep rfl (by simp -implicitDefEqProofs only[go_sem,seval,↓reduceIte];try rfl),FzO.of (c := .any) (fz:=0) (cs:=[encSl .any 3 encTk S,.int .i64 i,.int .i64 0,grown 1038 gx 3 acc]) rfl (by simp -implicitDefEqProofs only[go_sem,seval,↓reduceIte];try rfl) ⟨Fz.top _,Fz.same _,Fz.same _,Fz.grown rfl (by simp -implicitDefEqProofs only[go_sem,seval,↓reduceIte];try rfl) (encAS_cells _),trivial⟩⟩
  refine AW.seq_k fun K hK=>AW.region (by kernel_rfl) ?_;simp -implicitDefEqProofs only[go_sem,seval,↓reduceIte];refine hK _ ?_;clear hK K;refine AW.ret ?_;simp -implicitDefEqProofs only[go_sem,seval,↓reduceIte];refine endK_some ?_;rw [← hR];rfl
 have hil:i<S.l.length:=by have h29:decide ((i:Int)<S.l.length)=true:=h29;simp at h29;omega
 rw [bodyF_rd hil] at hR;refine AW.skip ?_;simp -implicitDefEqProofs only[go_sem,seval,↓reduceIte];refine hK4 _ ?_;refine AW.block ?_;have hst:=aStatement_spec G hE S hT g21 i hil acc hac gx;have hrt := @rdS_true S.l i acc;generalize rdS S.l i acc=q at hR hst hrt;obtain ⟨b,⟨j,e⟩,acc'⟩:=q;simp only at hR hst hrt;refine AW.seq_k fun K hK=>AW.region (by kernel_rfl) ?_;simp -implicitDefEqProofs only[go_sem,seval,↓reduceIte];refine CallA.inl [(21,cuO S g21 (grown 1038 gx 3 acc) ⟨i,0⟩),(1038,sdO gx acc)] (by kernel_rfl) ?_ ?_
 ·intro p hp
  simp only [List.mem_cons,List.not_mem_nil,or_false] at hp
  rcases hp with rfl | rfl
  ·simp -implicitDefEqProofs only[go_sem,seval,↓reduceIte];try rfl
  ·simp -implicitDefEqProofs only[go_sem,seval,↓reduceIte];try rfl
 refine hst.mono ?_;rintro _ H' ⟨rfl,gx',q21,q1038⟩;simp only [List.map_cons,List.map_nil,q21,q1038]
 cases b with
 | true =>
  obtain ⟨rfl,hj,hjl,hal,ha5⟩:=hrt rfl;rw [if_neg (by decide)] at hR;simp -implicitDefEqProofs only[go_sem,seval,↓reduceIte,sets];refine hK _ ?_;clear hK K;refine AW.condS (by simp -implicitDefEqProofs only[go_sem,seval,↓reduceIte];rfl) (fun h32=>?_) (fun h32=>?_)
  ·cases h32
  refine AW.skip ?_;simp -implicitDefEqProofs only[go_sem,seval,↓reduceIte];refine hL3 _ ⟨((gx',j),acc'),?_,⟨?_,?_,f,?_,hR⟩,Weak.st (by simp -implicitDefEqProofs only[go_sem,seval,↓reduceIte];try rfl) (by simp -implicitDefEqProofs only[go_sem,seval,↓reduceIte];try rfl)⟩
  ·show S.l.length-j<S.l.length-i;omega
  ·show j≤_;omega
  ·show acc'.length≤_;omega
  ·show S.l.length<f+j;omega
 | false =>
  rw [if_pos rfl] at hR;simp -implicitDefEqProofs only[go_sem,seval,↓reduceIte,sets];refine hK _ ?_;clear hK K;refine AW.condS (by simp -implicitDefEqProofs only[go_sem,seval,↓reduceIte];rfl) (fun h32=>?_) (fun h32=>?_);rotate_left
  ·cases h32
  refine AW.seq_k fun K5 hK5=>?_;refine AW.seq_k fun K hK=>AW.region (by kernel_rfl) ?_;simp -implicitDefEqProofs only[go_sem,seval,↓reduceIte,cuO_K];refine hK _ ?_;clear hK K;refine AW.condS (by simp -implicitDefEqProofs only[go_sem,seval,↓reduceIte];rfl) (fun h40=>?_) (fun h40=>?_)
  ·have hjl:j<S.l.length:=by have h40:decide ((j:Int)<S.l.length)=true:=h40;simp at h40;omega
   have hgj:=List.getElem?_eq_getElem hjl;generalize S.l[j]=t at hgj;rw [place_lt hgj] at hR;refine AW.weak (Weak.stF (fun o=>o==21) (l:=[(0,.str s),(2,.ptr 2 g2 0),(5,encSl .new 3 encTk S),(6,.view .any (.agg [encSl .any 3 encTk S,.int .i64 j,.int .i64 e,grown 1038 gx' 3 acc']))]) (m:=[(2,.cells .new g2 0 [.nils])]) ?_ ?_) ?_
   ·simp -implicitDefEqProofs only[go_sem,seval,↓reduceIte]
    exact ⟨Fz.same _,Fz.same _,Fz.same _,Fz.ptr (c := .any) (fz:=0) (v := .agg [encSl .any 3 encTk S,.int .i64 j,.int .i64 e,grown 1038 gx' 3 acc']) rfl (by simp -implicitDefEqProofs only[go_sem,seval,↓reduceIte];try rfl)⟩
   ·simp only [allFzO_cons,allFzO_nil,and_true]
    exact FzO.keep rfl (by simp -implicitDefEqProofs only[go_sem,seval,↓reduceIte];try rfl)
   refine AW.seq_k fun K hK=>AW.regionT ⟨fun _ => .top,fun k=>if k=6 then .lend else if k=9 then .lend else if k=14 then .lend else .pure⟩ (by kernel_rfl) hG (by kernel_rfl) (by kernel_rfl) ?_;simp -implicitDefEqProofs only[go_sem,seval,↓reduceIte,hgj,encTk_K];refine hK _ ?_;clear hK K;refine AW.ret ?_;simp -implicitDefEqProofs only[go_sem,seval,↓reduceIte];refine endK_some ?_;rw [← hR];rfl
  ·have hjl:¬ j<S.l.length:=by have h40:decide ((j:Int)<S.l.length)=false:=h40;simp at h40;omega
   refine AW.skip ?_;simp -implicitDefEqProofs only[go_sem,seval,↓reduceIte];refine hK5 _ ?_;refine AW.weak (Weak.stF (fun o=>o==21) (l:=[(0,.str s),(2,.ptr 2 g2 0),(5,encSl .new 3 encTk S),(6,.view .any (.agg [encSl .any 3 encTk S,.int .i64 j,.int .i64 e,grown 1038 gx' 3 acc']))]) (m:=[(2,.cells .new g2 0 [.nils])]) ?_ ?_) ?_
   ·simp -implicitDefEqProofs only[go_sem,seval,↓reduceIte]
    exact ⟨Fz.same _,Fz.same _,Fz.same _,Fz.ptr (c := .any) (fz:=0) (v := .agg [encSl .any 3 encTk S,.int .i64 j,.int .i64 e,grown 1038 gx' 3 acc']) rfl (by simp -implicitDefEqProofs only[go_sem,seval,↓reduceIte];try rfl)⟩
   ·simp only [allFzO_cons,allFzO_nil,and_true]
    exact FzO.keep rfl (by simp -implicitDefEqProofs only[go_sem,seval,↓reduceIte];try rfl)
   refine AW.seq_k fun K hK=>AW.regionT ⟨fun _ => .top,fun k=>if k=7 then .lend else .pure⟩ (by kernel_rfl) hG (by kernel_rfl) (by kernel_rfl) ?_;simp -implicitDefEqProofs only[go_sem,seval,↓reduceIte];refine hK _ ?_;clear hK K;refine AW.ret ?_;simp -implicitDefEqProofs only[go_sem,seval,↓reduceIte];refine endK_some ?_;rw [← hR];unfold placeP;rw [if_neg (by omega)];rfl
end Go.Hs
end

section
namespace Go.Hs
open Go.Proofs
set_option maxRecDepth 10000
theorem join0_spec (G:Nat→V):Spec Tryz.prog G 46 [.nils,.str [32]] hNone (fun v _=>v = .str []):=by
 refine Spec.of_code' 0 75 [.tmp 4] Tryz.func46 rfl rfl rfl rfl fun X=>?_;refine AW.seq_k fun K hK=>AW.region (by kernel_rfl) ?_;simp -implicitDefEqProofs only[go_sem,seval,↓reduceIte];refine hK _ ?_;clear hK K;refine AW.seq_k fun K1 hK1=>?_;refine AW.seq_k fun K hK=>AW.region (by kernel_rfl) ?_;simp -implicitDefEqProofs only[go_sem,seval,↓reduceIte];refine hK _ ?_;clear hK K;refine AW.block ?_;refine AW.seq_k fun K hK=>AW.region (by kernel_rfl) ?_;simp -implicitDefEqProofs only[go_sem,seval,↓reduceIte];refine hK _ ?_;clear hK K;refine AW.condS (by simp -implicitDefEqProofs only[go_sem,seval,↓reduceIte];rfl) (fun h13=>?_) (fun h13=>?_);rotate_left
 ·cases h13
 refine AW.seq_k fun K hK=>AW.region (by kernel_rfl) ?_;simp -implicitDefEqProofs only[go_sem,seval,↓reduceIte];refine hK _ ?_;clear hK K;refine AW.ret ?_;simp -implicitDefEqProofs only[go_sem,seval,↓reduceIte];refine endK_some ?_;rfl
noncomputable def pW (s:ASt):List (List UInt8) :=
 if s.kind=1 then [s.name,[58,61],(prP s.x).1,[59]]
 else if (prP s.x).1=[] then [[101,109,105,116],s.name,[40],[41],[59]] else [[101,109,105,116],s.name,[40],(prP s.x).1,[41],[59]]
theorem pW_ne (s:ASt):pW s≠[]:=by
 unfold pW
 split
 ·simp
 ·split<;>simp
theorem prP_nil:(prP []).1=[]:=by
 unfold prP;rw [dif_neg (by decide)]
theorem pW_join {s:ASt} (h:stOk s=true) (hn:∀ n∈s.x,n.num≤9223372036854775807):joinW (pW s)=sT s:=by
 obtain ⟨k,nm,xs⟩:=s;simp only at hn;simp only [stOk,Bool.and_eq_true,Bool.or_eq_true,beq_iff_eq] at h;obtain ⟨⟨hk,hnm⟩,hx⟩:=h
 by_cases h0:xs=[]
 ·have hk2:k=2:=by
   rcases hx with ⟨q,_⟩ | q
   ·exact q
   ·rw [h0] at q;exact absurd q (by decide)
  subst hk2 h0;simp [pW,sT,xsT,joinW,prP_nil]
 ·have hc:checkP xs=0:=by
   rcases hx with ⟨_,q⟩ | q
   ·exact absurd (List.isEmpty_iff.1 q) h0
   ·exact q
  obtain ⟨x,hxo,rfl,hd⟩:=checkP_ok hc;have hpr:=prP_row hxo hc;have hf:=fit_of x 0 hn
  have hne:joinW (x.W 0)≠[]:=by
   have hw:=words_ok x hxo hf 0;have hWne:=W_ne x 0
   cases hW:x.W 0 with
   | nil=>exact absurd hW hWne
   | cons w r =>
    have hw0:w≠[]:=by
     rintro rfl;exact hw [] (by rw [hW];simp) (by decide +kernel)
    cases r with
    | nil=>exact hw0
    | cons v r=>rw [joinW_cons _ (by simp)];simp
  have hxs:xsT (x.row 0)=joinW (x.W 0)++[32]:=by
   unfold xsT;rw [if_neg h0,hpr]
  rcases hk with rfl | rfl
  ·simp [pW,sT,hxs,hpr,joinW]
  ·simp [pW,sT,hxs,hpr,joinW,hne]
theorem pWs_join {b:List ASt} (h:∀ s∈b,stOk s=true∧∀ n∈s.x,n.num≤9223372036854775807):joinW (b.flatMap pW)=joinW (b.map sT):=by
 have e:b.map sT=(b.map pW).map joinW:=by
  rw [List.map_map];exact List.map_congr_left fun s hs=>(pW_join (h s hs).1 (h s hs).2).symm
 rw [e,joinW_flat _ (by
  intro ws hw;obtain ⟨s,_,rfl⟩:=List.mem_map.1 hw
  exact pW_ne s),List.flatMap_def]
theorem pW_len (s:ASt):(pW s).length≤6:=by
 unfold pW
 split
 ·simp
 ·split<;>simp
theorem pWs_len:∀ b:List ASt,(b.flatMap pW).length≤6 * b.length
 | []=>Nat.zero_le _
 | s::r=>by
  have:=pWs_len r;have:=pW_len s;simp only [List.flatMap_cons,List.length_append,List.length_cons];omega
theorem str_cells (w:List UInt8):(V.str w).cells.length=1:=rfl
theorem nem {o:Nat} (h:o=30∨o=40∨o=48):(o=1 ↔ False)∧(o=6 ↔ False)∧(o=29 ↔ False)∧(o=39 ↔ False)∧(o=47 ↔ False):=by
 rcases h with rfl | rfl | rfl<;>decide
theorem flatF (a:ASt) (b:List ASt) (k:Nat) (h:b[k]? = some a):(b.take (k+1)).flatMap pW=(b.take k).flatMap pW++pW a:=by
 rw [List.take_add_one,h];simp
theorem bPrint_spec (G:Nat→V) (hE:GExp G) (c c1:Col) (s:Sl AM) (hs:s.l.length<1000000) (hb:∀ a∈s.l,AmP a) (hcost:costA (s.l.map AM.v)<1000000) :
  Spec Tryz.prog G 21 [.agg [encSl c 3 (encAM c1) s]] hNone (fun v _=>v=encPr (printA (s.l.map AM.v))):=by
 have hG:=hE.ok;refine Spec.of_code' 0 52 [.tmp 2,.tmp 3] Tryz.func21 rfl rfl rfl rfl fun X=>?_
 have hP:printA (s.l.map AM.v)=if checkA (s.l.map AM.v)=0 then (joinW ((s.l.map AM.v).map sT),0) else ([],2):=rfl
 generalize printA (s.l.map AM.v)=res at hP ⊢;have hck:=fun c=>bCheck_spec G hE c c1.ent s hs fun a ha=>⟨(hb a ha).n,by have:=(hb a ha).l;omega,(hb a ha).x⟩;have hok := @checkA_ok (s.l.map AM.v)
 have hnum:∀ t∈s.l.map AM.v,∀ n∈t.x,n.num≤9223372036854775807:=by
  intro t ht n hn;obtain ⟨a,ha,rfl⟩:=List.mem_map.1 ht;exact (hb a ha).m n hn
 have hlen:=fun h=>printA_len (b:=s.l.map AM.v) h hnum;have h02:=checkA_02 (s.l.map AM.v);generalize checkA (s.l.map AM.v)=ck at hP hck hok hlen h02;refine AW.seq_k fun K hK=>AW.region (by kernel_rfl) ?_;simp -implicitDefEqProofs only[go_sem,seval,↓reduceIte];intro g1;refine hK _ ?_;clear hK K;refine AW.seq_k fun K1 hK1=>?_;refine AW.seq_k fun K hK=>AW.region (by kernel_rfl) ?_;simp -implicitDefEqProofs only[go_sem,seval,↓reduceIte];refine CallA.pure hG (by kernel_rfl) ?_;simp -implicitDefEqProofs only[go_sem,seval,↓reduceIte,recol_ams];refine (hck _).mono ?_;rintro _ _ rfl
 rcases h02 with rfl | rfl
 rotate_left
 ·simp -implicitDefEqProofs only[go_sem,seval,↓reduceIte]
  refine hK _ ?_;clear hK K;refine AW.condS (by simp -implicitDefEqProofs only[go_sem,seval,↓reduceIte];rfl) (fun h11=>?_) (fun h11=>?_);rotate_left
  ·cases h11
  refine AW.seq_k fun K hK=>AW.region (by kernel_rfl) ?_;simp -implicitDefEqProofs only[go_sem,seval,↓reduceIte];refine hK _ ?_;clear hK K;refine AW.ret ?_;simp -implicitDefEqProofs only[go_sem,seval,↓reduceIte];refine endK_some ?_;rw [hP];rfl
 simp -implicitDefEqProofs only[go_sem,seval,↓reduceIte];refine hK _ ?_;clear hK K;refine AW.condS (by simp -implicitDefEqProofs only[go_sem,seval,↓reduceIte];rfl) (fun h11=>?_) (fun h11=>?_)
 ·cases h11
 refine AW.skip ?_;simp -implicitDefEqProofs only[go_sem,seval,↓reduceIte];refine hK1 _ ?_;obtain ⟨hl5,hall⟩:=hok rfl;have hjl:=hlen rfl;rw [List.length_map] at hl5;have hpj:=pWs_join fun t ht=>⟨hall t ht,hnum t ht⟩;rw [if_pos rfl,← hpj] at hP;rw [← hpj] at hjl;refine AW.seq_k fun K hK=>AW.region (by kernel_rfl) ?_;simp -implicitDefEqProofs only[go_sem,seval,↓reduceIte];refine hK _ ?_;clear hK K;refine AW.seq_k fun K2 hK2=>?_;refine AW.seq_k fun K hK=>AW.region (by kernel_rfl) ?_;simp -implicitDefEqProofs only[go_sem,seval,↓reduceIte];refine hK _ ?_;clear hK K;refine AW.block ?_
 refine AW.for s.l.length (fun k (x:(Nat × Nat) × List (List UInt8))=>st [(4,grown x.1.2 x.1.1 1 x.2),(13,encSl c 3 (encAM c1) s),(14,.int .i64 s.l.length),(15,.int .i64 k)] [(x.1.2,grownO x.1.1 V.str x.2)])
  (fun k x=>(x.1.2=30∨x.1.2=40∨x.1.2=48)∧x.2=((s.l.map AM.v).take k).flatMap pW) 0 ((0,30),[]) (Nat.zero_le _) ⟨by decide,rfl⟩
  (Weak.st (by simp -implicitDefEqProofs only[go_sem,seval,↓reduceIte];try rfl) (by simp -implicitDefEqProofs only[go_sem,seval,↓reduceIte];try rfl)) ?_
 rintro k ⟨⟨gx,o⟩,l⟩ hk ⟨ho,hR⟩ L3 hL3;simp only at ho hR;obtain ⟨m1,m6,m29,m39,m47⟩:=nem ho;refine AW.seq_k fun K hK=>AW.region (by kernel_rfl) ?_;simp -implicitDefEqProofs only[go_sem,seval,↓reduceIte];refine hK _ ?_;clear hK K;refine AW.seq_k fun K4 hK4=>?_;refine AW.condS (by simp -implicitDefEqProofs only[go_sem,seval,↓reduceIte];rfl) (fun h16=>?_) (fun h16=>?_);rotate_left
 ·have hk1:k=s.l.length:=by have h16:decide ((k:Int)<s.l.length)=false:=h16;simp at h16;omega
  refine AW.exit ?_;simp -implicitDefEqProofs only[go_sem,seval,↓reduceIte];refine hK2 _ ?_
  have hR:l=(s.l.map AM.v).flatMap pW:=by rw [hR,hk1,← List.length_map (f:=AM.v),List.take_length]
  rw [← hR] at hjl hP;refine AW.weak (Weak.stF (fun x=>x==o) (l:=[(4,encSl .new 1 V.str (grownS l))]) (m:=[]) ?_ trivial) ?_
  ·simp -implicitDefEqProofs only[go_sem,seval,↓reduceIte]
   exact Fz.grown (by simp) (by simp -implicitDefEqProofs only[go_sem,seval,↓reduceIte];try rfl) str_cells
  have hll:l.length≤6 * s.l.length:=by
   rw [hR];have:=pWs_len (s.l.map AM.v);rwa [List.length_map] at this
  refine AW.seq_k fun K hK=>AW.region (by kernel_rfl) ?_;simp -implicitDefEqProofs only[go_sem,seval,↓reduceIte];refine CallA.pure hG (by kernel_rfl) ?_
  cases l with
  | nil =>
   simp -implicitDefEqProofs only[go_sem,seval,↓reduceIte];refine (join0_spec G).mono ?_;rintro _ _ rfl;simp -implicitDefEqProofs only[go_sem,seval,↓reduceIte];refine hK _ ?_;clear hK K;refine AW.ret ?_;simp -implicitDefEqProofs only[go_sem,seval,↓reduceIte];refine endK_some ?_;rw [hP];rfl
  | cons w r =>
   have hrc:(encSl .new 1 V.str (grownS (w::r))).recol Col.ent=encSl (Col.ent .new) 1 V.str (.mk false (w::r)):=recol_enc _ _ _ (fun _=>rfl) _;simp -implicitDefEqProofs only[go_sem,seval,↓reduceIte,hrc];refine (join_spec G _ (w::r) (by simp) (by omega) (by omega)).mono ?_;rintro _ _ rfl;simp -implicitDefEqProofs only[go_sem,seval,↓reduceIte];refine hK _ ?_;clear hK K;refine AW.ret ?_;simp -implicitDefEqProofs only[go_sem,seval,↓reduceIte];refine endK_some ?_;rw [hP];rfl
 have hk1:k<s.l.length:=by have h16:decide ((k:Int)<s.l.length)=true:=h16;simp at h16;omega
 have hg:=List.getElem?_eq_getElem hk1;have hba:=hb _ (List.getElem_mem hk1);have hsta:=hall _ (List.mem_map_of_mem (f:=AM.v) (List.getElem_mem hk1));have hnx:=flatF (s.l[k]).v (s.l.map AM.v) k (by rw [List.getElem?_map,hg];rfl);generalize s.l[k]=a at hg hba hsta hnx;refine AW.skip ?_;simp -implicitDefEqProofs only[go_sem,seval,↓reduceIte];refine hK4 _ ?_
 refine AW.seqJ (fun (x:(Nat × Nat) × List (List UInt8))=>st [(4,grown x.1.2 x.1.1 1 x.2),(13,encSl c 3 (encAM c1) s),(14,.int .i64 s.l.length),(15,.int .i64 k)] [(x.1.2,grownO x.1.1 V.str x.2)])
  (fun x=>(x.1.2=30∨x.1.2=40∨x.1.2=48)∧x.2=((s.l.map AM.v).take (k+1)).flatMap pW) (fun K5 hK5=>?_) ?_
 rotate_left
 ·rintro ⟨⟨g2,o2⟩,l2⟩ ⟨ho2,hR2⟩
  refine AW.region (by kernel_rfl) ?_;simp -implicitDefEqProofs only[go_sem,seval,↓reduceIte];exact hL3 _ ⟨hk1,((g2,o2),l2),⟨ho2,hR2⟩,Weak.st (by simp -implicitDefEqProofs only[go_sem,seval,↓reduceIte];exact congrArg _ (w64 (by omega) (by omega))) (by simp -implicitDefEqProofs only[go_sem,seval,↓reduceIte])⟩
 refine AW.block ?_;refine AW.seq_k fun K hK=>AW.region (by kernel_rfl) ?_;simp -implicitDefEqProofs only[go_sem,seval,↓reduceIte,hg,encAM_K];intro g6;refine hK _ ?_;clear hK K;refine AW.seq_k fun K hK=>AW.region (by kernel_rfl) ?_;simp -implicitDefEqProofs only[go_sem,seval,↓reduceIte,m1,m6,m29,m39,m47];refine CallA.pure hG (by kernel_rfl) ?_;simp -implicitDefEqProofs only[go_sem,seval,↓reduceIte,recol_xns];refine (xPrint_spec G hE _ a.x hba.l hba.x hba.m).mono ?_;rintro _ _ ⟨r,rfl,hr⟩;obtain rfl:=prP_of hr
 have hpw:pW a.v=if a.kind=1 then [a.name,[58,61],(prP a.x.l).1,[59]]
  else if (prP a.x.l).1=[] then [[101,109,105,116],a.name,[40],[41],[59]] else [[101,109,105,116],a.name,[40],(prP a.x.l).1,[41],[59]]:=rfl
 generalize prP a.x.l=r at hpw;obtain ⟨t,e⟩:=r;simp only at hpw;simp -implicitDefEqProofs only[go_sem,seval,↓reduceIte,encPr];refine hK _ ?_;clear hK K;refine AW.block ?_
 by_cases h1:a.kind=1
 ·rw [if_pos h1] at hpw
  have q1:(a.kind==1)=true:=by simpa using h1
  refine AW.seq_k fun K hK=>AW.region (by kernel_rfl) ?_;simp -implicitDefEqProofs only[go_sem,seval,↓reduceIte,q1,m1,m6,m29,m39,m47];refine hK _ ?_;clear hK K;refine AW.condS (by simp -implicitDefEqProofs only[go_sem,seval,↓reduceIte];rfl) (fun h31=>?_) (fun h31=>?_);rotate_left
  ·cases h31
  refine AW.region (by kernel_rfl) ?_;simp -implicitDefEqProofs only[go_sem,seval,↓reduceIte,m1,m6,m29,m39,m47];intro g39;refine app_grown2 (f:=V.str) (l:=l) (l2:=[a.name,[58,61],t,[59]]) (o:=o) (g:=gx) str_cells rfl rfl rfl (by simp -implicitDefEqProofs only[go_sem,seval,↓reduceIte,m1,m6,m29,m39,m47];try rfl) (roomOk_of (by omega) (by rw [hR];have:=pWs_len ((s.l.map AM.v).take k);rw [List.length_take] at this;show _+4<_;omega)) fun o2 g2 ho2=>?_
  have ho3:o2=30∨o2=40∨o2=48:=by
   rcases ho2 with h | h
   ·rw [h];exact ho
   ·first | exact .inl h | exact .inr (.inl h) | exact .inr (.inr h)
  obtain ⟨n1,n6,n29,n39,n47⟩:=nem ho3;simp -implicitDefEqProofs only[go_sem,seval,↓reduceIte,n1,n6,n29,n39,n47];refine hK5 _ ((g2,o2),l++[a.name,[58,61],t,[59]]) ⟨ho3,?_⟩ (Weak.st (by simp -implicitDefEqProofs only[go_sem,seval,↓reduceIte];try rfl) (by simp -implicitDefEqProofs only[go_sem,seval,↓reduceIte,n1,n6,n29,n39,n47];try rfl))
  show l++[a.name,[58,61],t,[59]]=_
  rw [hnx,hR,hpw]
 rw [if_neg h1] at hpw
 have q1:(a.kind==1)=false:=by simpa using h1
 refine AW.seq_k fun K hK=>AW.region (by kernel_rfl) ?_;simp -implicitDefEqProofs only[go_sem,seval,↓reduceIte,q1,m1,m6,m29,m39,m47];refine hK _ ?_;clear hK K;refine AW.condS (by simp -implicitDefEqProofs only[go_sem,seval,↓reduceIte];rfl) (fun h31=>?_) (fun h31=>?_)
 ·cases h31
 by_cases h2:t=[]
 ·rw [if_pos h2] at hpw
  subst h2;refine AW.seq_k fun K hK=>AW.region (by kernel_rfl) ?_;simp -implicitDefEqProofs only[go_sem,seval,↓reduceIte];refine hK _ ?_;clear hK K;refine AW.condS (by simp -implicitDefEqProofs only[go_sem,seval,↓reduceIte];rfl) (fun h41=>?_) (fun h41=>?_);rotate_left
  ·cases h41
  refine AW.region (by kernel_rfl) ?_;simp -implicitDefEqProofs only[go_sem,seval,↓reduceIte,m1,m6,m29,m39,m47];intro g47;refine app_grown2 (f:=V.str) (l:=l) (l2:=[[101,109,105,116],a.name,[40],[41],[59]]) (o:=o) (g:=gx) str_cells rfl rfl rfl (by simp -implicitDefEqProofs only[go_sem,seval,↓reduceIte,m1,m6,m29,m39,m47];try rfl) (roomOk_of (by omega) (by rw [hR];have:=pWs_len ((s.l.map AM.v).take k);rw [List.length_take] at this;show _+5<_;omega)) fun o2 g2 ho2=>?_
  have ho3:o2=30∨o2=40∨o2=48:=by
   rcases ho2 with h | h
   ·rw [h];exact ho
   ·first | exact .inl h | exact .inr (.inl h) | exact .inr (.inr h)
  obtain ⟨n1,n6,n29,n39,n47⟩:=nem ho3;simp -implicitDefEqProofs only[go_sem,seval,↓reduceIte,n1,n6,n29,n39,n47];refine hK5 _ ((g2,o2),l++[[101,109,105,116],a.name,[40],[41],[59]]) ⟨ho3,?_⟩ (Weak.st (by simp -implicitDefEqProofs only[go_sem,seval,↓reduceIte];try rfl) (by simp -implicitDefEqProofs only[go_sem,seval,↓reduceIte,n1,n6,n29,n39,n47];try rfl))
  show l++[[101,109,105,116],a.name,[40],[41],[59]]=_
  rw [hnx,hR,hpw]
 ·rw [if_neg h2] at hpw
  have q2:(t==[])=false:=by simpa using h2
  refine AW.seq_k fun K hK=>AW.region (by kernel_rfl) ?_;simp -implicitDefEqProofs only[go_sem,seval,↓reduceIte,q2];refine hK _ ?_;clear hK K;refine AW.condS (by simp -implicitDefEqProofs only[go_sem,seval,↓reduceIte];rfl) (fun h41=>?_) (fun h41=>?_)
  ·cases h41
  refine AW.region (by kernel_rfl) ?_;simp -implicitDefEqProofs only[go_sem,seval,↓reduceIte,m1,m6,m29,m39,m47];intro g29;refine app_grown2 (f:=V.str) (l:=l) (l2:=[[101,109,105,116],a.name,[40],t,[41],[59]]) (o:=o) (g:=gx) str_cells rfl rfl rfl (by simp -implicitDefEqProofs only[go_sem,seval,↓reduceIte,m1,m6,m29,m39,m47];try rfl) (roomOk_of (by omega) (by rw [hR];have:=pWs_len ((s.l.map AM.v).take k);rw [List.length_take] at this;show _+6<_;omega)) fun o2 g2 ho2=>?_
  have ho3:o2=30∨o2=40∨o2=48:=by
   rcases ho2 with h | h
   ·rw [h];exact ho
   ·first | exact .inl h | exact .inr (.inl h) | exact .inr (.inr h)
  obtain ⟨n1,n6,n29,n39,n47⟩:=nem ho3;simp -implicitDefEqProofs only[go_sem,seval,↓reduceIte,n1,n6,n29,n39,n47];refine hK5 _ ((g2,o2),l++[[101,109,105,116],a.name,[40],t,[41],[59]]) ⟨ho3,?_⟩ (Weak.st (by simp -implicitDefEqProofs only[go_sem,seval,↓reduceIte];try rfl) (by simp -implicitDefEqProofs only[go_sem,seval,↓reduceIte,n1,n6,n29,n39,n47];try rfl))
  show l++[[101,109,105,116],a.name,[40],t,[41],[59]]=_
  rw [hnx,hR,hpw]
end Go.Hs
end

section
namespace Go.Hs
open Go.Proofs
set_option maxRecDepth 10000
theorem a11Among_spec (G:Nat→V) (hG:GOk G) (c:Col) (t:List UInt8) (s:Sl (List UInt8)) (hs:s.l.length<1000000) :
  Spec Tryz.prog G 48 [.str t,encSl c 1 V.str s] hNone (fun v _=>v = .bool (s.l.contains t)):=by
 refine Spec.of_code' 0 18 [.tmp 4] Tryz.func48 rfl rfl rfl rfl fun X=>?_;refine AW.seq_k fun K hK=>AW.region (by kernel_rfl) ?_;simp -implicitDefEqProofs only[go_sem,seval,↓reduceIte];refine hK _ ?_;clear hK K;refine AW.seq_k fun K1 hK1=>?_;refine AW.seq_k fun K hK=>AW.region (by kernel_rfl) ?_;simp -implicitDefEqProofs only[go_sem,seval,↓reduceIte];refine hK _ ?_;clear hK K;refine AW.block ?_
 refine AW.for s.l.length (fun k (_:Unit)=>st [(0,.str t),(1,encSl c 1 V.str s),(5,.int .i64 k)] []) (fun k _=>(s.l.take k).contains t=false) 0 () (Nat.zero_le _) rfl
  (Weak.st (by simp -implicitDefEqProofs only[go_sem,seval,↓reduceIte];try rfl) (by simp -implicitDefEqProofs only[go_sem,seval,↓reduceIte])) ?_
 intro k _ hk hR L2 hL2;refine AW.seq_k fun K3 hK3=>?_;refine AW.seq_k fun K hK=>AW.region (by kernel_rfl) ?_;simp -implicitDefEqProofs only[go_sem,seval,↓reduceIte];refine hK _ ?_;clear hK K;refine AW.condS (by simp -implicitDefEqProofs only[go_sem,seval,↓reduceIte];rfl) (fun h4=>?_) (fun h4=>?_)
 ·have hk1:k<s.l.length:=by simpa using h4
  have hg:=List.getElem?_eq_getElem hk1
  have htk:s.l.take (k+1)=s.l.take k++[s.l[k]]:=by rw [List.take_succ_eq_append_getElem hk1]
  have hmem:=List.getElem_mem hk1;generalize s.l[k]=x at hg htk hmem;refine AW.skip ?_;simp -implicitDefEqProofs only[go_sem,seval,↓reduceIte];refine hK3 _ ?_;refine AW.seq_k fun K5 hK5=>?_;refine AW.block ?_;refine AW.seq_k fun K hK=>AW.region (by kernel_rfl) ?_;simp -implicitDefEqProofs only[go_sem,seval,↓reduceIte,hg];refine hK _ ?_;clear hK K;refine AW.condS (by simp -implicitDefEqProofs only[go_sem,seval,↓reduceIte];rfl) (fun h6=>?_) (fun h6=>?_)
  ·have h6:x=t:=by simpa using h6
   refine AW.seq_k fun K hK=>AW.region (by kernel_rfl) ?_;simp -implicitDefEqProofs only[go_sem,seval,↓reduceIte];refine hK _ ?_;clear hK K;refine AW.ret ?_;simp -implicitDefEqProofs only[go_sem,seval,↓reduceIte];refine endK_some ?_
   have:s.l.contains t=true:=by rw [← h6];simpa using hmem
   rw [this]
  ·have h6:¬ x=t:=by simpa using h6
   refine AW.skip ?_;simp -implicitDefEqProofs only[go_sem,seval,↓reduceIte];refine hK5 _ ?_;refine AW.region (by kernel_rfl) ?_;simp -implicitDefEqProofs only[go_sem,seval,↓reduceIte];refine hL2 _ ⟨hk1,(),?_,Weak.st (by simp -implicitDefEqProofs only[go_sem,seval,↓reduceIte];exact congrArg _ (w64 (by omega) (by omega))) (by simp -implicitDefEqProofs only[go_sem,seval,↓reduceIte])⟩;rw [htk];simp only [List.contains_eq_mem,decide_eq_false_iff_not] at hR ⊢;intro hm
   rcases List.mem_append.1 hm with h | h
   ·exact hR h
   ·exact h6 ((List.mem_singleton.1 h).symm)
 ·have hk1:k=s.l.length:=by simp at h4;omega
  refine AW.exit ?_;simp -implicitDefEqProofs only[go_sem,seval,↓reduceIte];refine hK1 _ ?_;refine AW.seq_k fun K hK=>AW.region (by kernel_rfl) ?_;simp -implicitDefEqProofs only[go_sem,seval,↓reduceIte];refine hK _ ?_;clear hK K;refine AW.ret ?_;simp -implicitDefEqProofs only[go_sem,seval,↓reduceIte];refine endK_some ?_;rw [hk1,List.take_length] at hR;rw [hR]
end Go.Hs
end

section
namespace Go.Hs
open Go.Proofs
set_option maxRecDepth 10000
def encTy (r:Int × Int):V := .tuple [.int .i64 r.1,.int .i64 r.2]
theorem ofTP_e {names:List (List UInt8)} {l:List XN} (h:(ofTP names l).2.2≠0):(ofTP names l).1=0:=by
 unfold ofTP at h ⊢
 split
 ·rfl
 ·rename_i h1
  rw [if_neg h1] at h;exact absurd rfl h
theorem stOk_kind {s:ASt} (h:stOk s=true):s.kind=1∨s.kind=2:=by
 simp only [stOk,Bool.and_eq_true,Bool.or_eq_true,beq_iff_eq] at h;exact h.1.1
theorem aTypes_spec (G:Nat→V) (hG:GOk G) (c c1 c2 c3:Col) (s:Sl AM) (vars events:Sl (List UInt8)) (hA:AmOk s.l) (hv:vars.l.length<100000) (hev:events.l.length<1000000) :
  Spec Tryz.prog G 23 [encSl c 3 (encAM c1) s,encSl c2 1 V.str vars,encSl c3 1 V.str events] hNone (fun v _=>v=encTy (typesA (s.l.map AM.v) vars.l events.l)):=by
 refine Spec.of_code' 0 86 [.tmp 6,.tmp 7] Tryz.func23 rfl rfl rfl rfl fun X=>?_;have hs:=hA.len
 have hP:typesA (s.l.map AM.v) vars.l events.l=if checkA (s.l.map AM.v)≠0 then (0,2) else typesF vars.l events.l ((s.l.map AM.v).drop 0) (0:Nat):=rfl
 generalize typesA (s.l.map AM.v) vars.l events.l=res at hP ⊢;have hck:=fun c=>aCheck_spec G hG c c1.ent s hA;have hok := @checkA_ok (s.l.map AM.v);have h02:=checkA_02 (s.l.map AM.v);generalize checkA (s.l.map AM.v)=ck at hP hck hok h02;refine AW.seq_k fun K hK=>AW.region (by kernel_rfl) ?_;simp -implicitDefEqProofs only[go_sem,seval,↓reduceIte];refine hK _ ?_;clear hK K;refine AW.seq_k fun K1 hK1=>?_;refine AW.seq_k fun K hK=>AW.region (by kernel_rfl) ?_;simp -implicitDefEqProofs only[go_sem,seval,↓reduceIte];refine CallA.pure hG (by kernel_rfl) ?_;simp -implicitDefEqProofs only[go_sem,seval,↓reduceIte,recol_ams];refine (hck _).mono ?_;rintro _ _ rfl
 rcases h02 with rfl | rfl
 rotate_left
 ·simp -implicitDefEqProofs only[go_sem,seval,↓reduceIte]
  refine hK _ ?_;clear hK K;refine AW.condS (by simp -implicitDefEqProofs only[go_sem,seval,↓reduceIte];rfl) (fun h15=>?_) (fun h15=>?_);rotate_left
  ·cases h15
  refine AW.seq_k fun K hK=>AW.region (by kernel_rfl) ?_;simp -implicitDefEqProofs only[go_sem,seval,↓reduceIte];refine hK _ ?_;clear hK K;refine AW.ret ?_;simp -implicitDefEqProofs only[go_sem,seval,↓reduceIte];refine endK_some ?_;rw [hP];rfl
 simp -implicitDefEqProofs only[go_sem,seval,↓reduceIte];refine hK _ ?_;clear hK K;refine AW.condS (by simp -implicitDefEqProofs only[go_sem,seval,↓reduceIte];rfl) (fun h15=>?_) (fun h15=>?_)
 ·cases h15
 refine AW.skip ?_;simp -implicitDefEqProofs only[go_sem,seval,↓reduceIte];refine hK1 _ ?_;obtain ⟨_,hall⟩:=hok rfl;rw [if_neg (by decide)] at hP;refine AW.seq_k fun K hK=>AW.region (by kernel_rfl) ?_;simp -implicitDefEqProofs only[go_sem,seval,↓reduceIte];intro g16;refine hK _ ?_;clear hK K;refine AW.seq_k fun K hK=>AW.region (by kernel_rfl) ?_;simp -implicitDefEqProofs only[go_sem,seval,↓reduceIte];refine ⟨roomOk_of (by omega) (by omega),fun g2=>?_⟩;refine hK _ ?_;clear hK K
 have e1:1+vars.l.length=(argW::vars.l).length:=by rw [List.length_cons];omega
 refine AW.weak (Weak.stF (fun o=>o==16) (l:=[(0,encSl c 3 (encAM c1) s),(1,encSl c2 1 V.str vars),(2,encSl c3 1 V.str events),(8,encSl .new 1 V.str (.mk false (argW::vars.l)))]) (m:=[]) ?_ trivial) ?_
 ·simp -implicitDefEqProofs only[go_sem,seval,↓reduceIte]
  refine ⟨Fz.same _,Fz.same _,Fz.same _,?_⟩;rw [e1];exact Fz.sl (f:=V.str) (l:=argW::vars.l) (m:=1) (g:=g2) (fz:=0) (c := .new) rfl (by simp -implicitDefEqProofs only[go_sem,seval,↓reduceIte];try rfl) str_cells
 generalize hNS:(Sl.mk false (argW::vars.l):Sl (List UInt8))=NS
 have hNl:NS.l=argW::vars.l:=by rw [← hNS];rfl
 have hof:=fun c c1 (x:Sl XN) (h1:x.l.length<1000000) h2=>r9Of_spec G hG c c1 x NS h1 h2 (by rw [hNl,List.length_cons];omega)
 have hcg:∀ x,ofTP NS.l x=ofTP (vars.l++[argW]) x:=by
  intro x;rw [hNl];exact ofTP_congr (fun t=>swap_contains argW vars.l t) x
 refine AW.seq_k fun K2 hK2=>?_;refine AW.seq_k fun K hK=>AW.region (by kernel_rfl) ?_;simp -implicitDefEqProofs only[go_sem,seval,↓reduceIte];refine hK _ ?_;clear hK K;refine AW.block ?_
 refine AW.for s.l.length (fun k (_:Unit)=>st [(0,encSl c 3 (encAM c1) s),(1,encSl c2 1 V.str vars),(2,encSl c3 1 V.str events),(8,encSl .new 1 V.str NS),(9,.int .i64 k)] [])
  (fun k _=>typesF vars.l events.l ((s.l.map AM.v).drop k) (k:Nat)=res) 0 () (Nat.zero_le _) hP.symm
  (Weak.st (by simp -implicitDefEqProofs only[go_sem,seval,↓reduceIte];try rfl) (by simp -implicitDefEqProofs only[go_sem,seval,↓reduceIte];try rfl)) ?_
 rintro k _ hk hR L3 hL3;refine AW.seq_k fun K4 hK4=>?_;refine AW.seq_k fun K hK=>AW.region (by kernel_rfl) ?_;simp -implicitDefEqProofs only[go_sem,seval,↓reduceIte];refine hK _ ?_;clear hK K;refine AW.condS (by simp -implicitDefEqProofs only[go_sem,seval,↓reduceIte];rfl) (fun h23=>?_) (fun h23=>?_);rotate_left
 ·have hk1:k=s.l.length:=by have h23:decide ((k:Int)<s.l.length)=false:=h23;simp at h23;omega
  refine AW.exit ?_;simp -implicitDefEqProofs only[go_sem,seval,↓reduceIte];refine hK2 _ ?_;rw [List.drop_of_length_le (by rw [List.length_map];omega)] at hR;refine AW.seq_k fun K hK=>AW.region (by kernel_rfl) ?_;simp -implicitDefEqProofs only[go_sem,seval,↓reduceIte];refine hK _ ?_;clear hK K;refine AW.ret ?_;simp -implicitDefEqProofs only[go_sem,seval,↓reduceIte];refine endK_some ?_;rw [← hR];rfl
 have hk1:k<s.l.length:=by have h23:decide ((k:Int)<s.l.length)=true:=h23;simp at h23;omega
 have hg:=List.getElem?_eq_getElem hk1;have hba:=hA.row _ (List.getElem_mem hk1);have hsta:=hall _ (List.mem_map_of_mem (f:=AM.v) (List.getElem_mem hk1))
 have hgv:(s.l.map AM.v)[k]? = some (s.l[k]).v:=by rw [List.getElem?_map,hg];rfl
 rw [typesF_drop hgv] at hR;generalize s.l[k]=a at hg hba hsta hR;have hkd:=stOk_kind hsta;have hst:stT vars.l events.l a.v=((if a.kind=2 then events.l.contains a.name else vars.l.contains a.name) && exprT (vars.l++[argW]) a.x.l):=rfl;refine AW.skip ?_;simp -implicitDefEqProofs only[go_sem,seval,↓reduceIte];refine hK4 _ ?_;refine AW.seq_k fun K5 hK5=>?_;refine AW.block ?_;refine AW.seqJ (fun (_:Unit)=>st [(0,encSl c 3 (encAM c1) s),(1,encSl c2 1 V.str vars),(2,encSl c3 1 V.str events),(8,encSl .new 1 V.str NS),(9,.int .i64 k)] []) (fun _=>(if a.kind=2 then events.l.contains a.name else vars.l.contains a.name)=true) (fun K6 hK6=>?_) ?_
 ·rcases hkd with hk0 | hk0
  ·have hk0:a.kind=1:=hk0
   have q1:(a.kind==1)=true:=by simpa using hk0
   have q2:(a.kind==2)=false:=by rw [hk0];rfl
   rw [if_neg (by rw [hk0];decide)] at hst hK6;refine AW.seq_k fun K hK=>AW.region (by kernel_rfl) ?_;simp -implicitDefEqProofs only[go_sem,seval,↓reduceIte,hg,encAM_K,q1];refine CallA.pure hG (by kernel_rfl) ?_;simp -implicitDefEqProofs only[go_sem,seval,↓reduceIte,recol_encS];refine (a11Among_spec G hG _ a.name vars (by omega)).mono ?_;rintro _ _ rfl;simp -implicitDefEqProofs only[go_sem,seval,↓reduceIte]
   cases q3:vars.l.contains a.name with
   | false =>
    rw [q3,Bool.false_and] at hst;rw [if_neg (by rw [hst];decide)] at hR;simp -implicitDefEqProofs only[go_sem,seval,↓reduceIte,q3,hg,encAM_K,q2];refine hK _ ?_;clear hK K;refine AW.condS (by simp -implicitDefEqProofs only[go_sem,seval,↓reduceIte];rfl) (fun h59=>?_) (fun h59=>?_);rotate_left
    ·cases h59
    refine AW.seq_k fun K hK=>AW.region (by kernel_rfl) ?_;simp -implicitDefEqProofs only[go_sem,seval,↓reduceIte];refine hK _ ?_;clear hK K;refine AW.ret ?_;simp -implicitDefEqProofs only[go_sem,seval,↓reduceIte];refine endK_some ?_;rw [← hR];rfl
   | true =>
    rw [q3] at hK6;simp -implicitDefEqProofs only[go_sem,seval,↓reduceIte,q3,hg,encAM_K,q2];refine hK _ ?_;clear hK K;refine AW.condS (by simp -implicitDefEqProofs only[go_sem,seval,↓reduceIte];rfl) (fun h59=>?_) (fun h59=>?_)
    ·cases h59
    refine AW.skip ?_;simp -implicitDefEqProofs only[go_sem,seval,↓reduceIte];exact hK6 _ () rfl (Weak.st (by simp -implicitDefEqProofs only[go_sem,seval,↓reduceIte];try rfl) (by simp -implicitDefEqProofs only[go_sem,seval,↓reduceIte];try rfl))
  ·have hk0:a.kind=2:=hk0
   have q1:(a.kind==1)=false:=by rw [hk0];rfl
   have q2:(a.kind==2)=true:=by simpa using hk0
   rw [if_pos hk0] at hst hK6;refine AW.seq_k fun K hK=>AW.region (by kernel_rfl) ?_;simp -implicitDefEqProofs only[go_sem,seval,↓reduceIte,hg,encAM_K,q1,q2];refine CallA.pure hG (by kernel_rfl) ?_;simp -implicitDefEqProofs only[go_sem,seval,↓reduceIte,recol_encS];refine (a11Among_spec G hG _ a.name events hev).mono ?_;rintro _ _ rfl;simp -implicitDefEqProofs only[go_sem,seval,↓reduceIte]
   cases q3:events.l.contains a.name with
   | false =>
    rw [q3,Bool.false_and] at hst;rw [if_neg (by rw [hst];decide)] at hR;simp -implicitDefEqProofs only[go_sem,seval,↓reduceIte,q3];refine hK _ ?_;clear hK K;refine AW.condS (by simp -implicitDefEqProofs only[go_sem,seval,↓reduceIte];rfl) (fun h59=>?_) (fun h59=>?_);rotate_left
    ·cases h59
    refine AW.seq_k fun K hK=>AW.region (by kernel_rfl) ?_;simp -implicitDefEqProofs only[go_sem,seval,↓reduceIte];refine hK _ ?_;clear hK K;refine AW.ret ?_;simp -implicitDefEqProofs only[go_sem,seval,↓reduceIte];refine endK_some ?_;rw [← hR];rfl
   | true =>
    rw [q3] at hK6;simp -implicitDefEqProofs only[go_sem,seval,↓reduceIte,q3];refine hK _ ?_;clear hK K;refine AW.condS (by simp -implicitDefEqProofs only[go_sem,seval,↓reduceIte];rfl) (fun h59=>?_) (fun h59=>?_)
    ·cases h59
    refine AW.skip ?_;simp -implicitDefEqProofs only[go_sem,seval,↓reduceIte];exact hK6 _ () rfl (Weak.st (by simp -implicitDefEqProofs only[go_sem,seval,↓reduceIte];try rfl) (by simp -implicitDefEqProofs only[go_sem,seval,↓reduceIte];try rfl))
 intro _ hnm;rw [hnm,Bool.true_and] at hst
 have hnx:∀ (h:exprT (vars.l++[argW]) a.x.l=true),typesF vars.l events.l ((s.l.map AM.v).drop (k+1)) (k+1:Nat)=res:=fun h=>by rw [if_pos (by rw [hst];exact h)] at hR;exact hR
 have hbd:∀ (h:exprT (vars.l++[argW]) a.x.l=false),((k:Int),(90:Int))=res:=fun h=>by rw [if_neg (by rw [hst,h];decide)] at hR;exact hR
 by_cases hx0:a.x.l.length=0
 ·have hxe:exprT (vars.l++[argW]) a.x.l=true:=by unfold exprT;rw [List.length_eq_zero_iff.1 hx0];rfl
  have q5:decide ((a.x.l.length:Int) > 0)=false:=by rw [decide_eq_false_iff_not];omega
  refine AW.seq_k fun K hK=>AW.region (by kernel_rfl) ?_;simp -implicitDefEqProofs only[go_sem,seval,↓reduceIte,hg,encAM_K,q5];refine hK _ ?_;clear hK K;refine AW.condS (by simp -implicitDefEqProofs only[go_sem,seval,↓reduceIte];rfl) (fun h67=>?_) (fun h67=>?_)
  ·cases h67
  refine AW.skip ?_;simp -implicitDefEqProofs only[go_sem,seval,↓reduceIte];refine hK5 _ ?_;refine AW.region (by kernel_rfl) ?_;simp -implicitDefEqProofs only[go_sem,seval,↓reduceIte];exact hL3 _ ⟨hk1,(),hnx hxe,Weak.st (by simp -implicitDefEqProofs only[go_sem,seval,↓reduceIte];exact congrArg _ (w64 (by omega) (by omega))) (by simp -implicitDefEqProofs only[go_sem,seval,↓reduceIte])⟩
 have q5:decide ((a.x.l.length:Int) > 0)=true:=by rw [decide_eq_true_iff];omega
 have hxe:exprT (vars.l++[argW]) a.x.l=((ofTP NS.l a.x.l).1==1):=by
  unfold exprT;rw [← hcg]
  cases hq:a.x.l with
  | nil=>rw [hq] at hx0;exact absurd rfl hx0
  | cons=>rfl
 refine AW.seq_k fun K hK=>AW.region (by kernel_rfl) ?_;simp -implicitDefEqProofs only[go_sem,seval,↓reduceIte,hg,encAM_K,q5];refine hK _ ?_;clear hK K;refine AW.condS (by simp -implicitDefEqProofs only[go_sem,seval,↓reduceIte];rfl) (fun h67=>?_) (fun h67=>?_);rotate_left
 ·cases h67
 refine AW.seq_k fun K hK=>AW.region (by kernel_rfl) ?_;simp -implicitDefEqProofs only[go_sem,seval,↓reduceIte,hg,encAM_K];refine CallA.pure hG (by kernel_rfl) ?_;simp -implicitDefEqProofs only[go_sem,seval,↓reduceIte,recol_xns];refine (hof _ _ a.x hba.2.1 hba.2.2).mono ?_;rintro _ _ rfl;have hoe := @ofTP_e NS.l a.x.l;generalize ofTP NS.l a.x.l=r at hxe hoe;obtain ⟨kd0,i0,e0⟩:=r;simp only at hxe hoe;simp -implicitDefEqProofs only[go_sem,seval,↓reduceIte,encO3];refine hK _ ?_;clear hK K
 by_cases he:e0=0
 rotate_left
 ·have q6:(e0==0)=false:=by simpa using he
  rw [hoe he] at hxe;refine AW.seq_k fun K hK=>AW.region (by kernel_rfl) ?_;simp -implicitDefEqProofs only[go_sem,seval,↓reduceIte,bne,q6];refine hK _ ?_;clear hK K;refine AW.condS (by simp -implicitDefEqProofs only[go_sem,seval,↓reduceIte];rfl) (fun h84=>?_) (fun h84=>?_);rotate_left
  ·cases h84
  refine AW.seq_k fun K hK=>AW.region (by kernel_rfl) ?_;simp -implicitDefEqProofs only[go_sem,seval,↓reduceIte];refine hK _ ?_;clear hK K;refine AW.ret ?_;simp -implicitDefEqProofs only[go_sem,seval,↓reduceIte];refine endK_some ?_;rw [← hbd hxe];rfl
 have q6:(e0==0)=true:=by simpa using he
 cases q7:(kd0==1) with
 | false =>
  rw [q7] at hxe;refine AW.seq_k fun K hK=>AW.region (by kernel_rfl) ?_;simp -implicitDefEqProofs only[go_sem,seval,↓reduceIte,bne,q6,q7];refine hK _ ?_;clear hK K;refine AW.condS (by simp -implicitDefEqProofs only[go_sem,seval,↓reduceIte];rfl) (fun h84=>?_) (fun h84=>?_);rotate_left
  ·cases h84
  refine AW.seq_k fun K hK=>AW.region (by kernel_rfl) ?_;simp -implicitDefEqProofs only[go_sem,seval,↓reduceIte];refine hK _ ?_;clear hK K;refine AW.ret ?_;simp -implicitDefEqProofs only[go_sem,seval,↓reduceIte];refine endK_some ?_;rw [← hbd hxe];rfl
 | true =>
  rw [q7] at hxe;refine AW.seq_k fun K hK=>AW.region (by kernel_rfl) ?_;simp -implicitDefEqProofs only[go_sem,seval,↓reduceIte,bne,q6,q7];refine hK _ ?_;clear hK K;refine AW.condS (by simp -implicitDefEqProofs only[go_sem,seval,↓reduceIte];rfl) (fun h84=>?_) (fun h84=>?_)
  ·cases h84
  refine AW.skip ?_;simp -implicitDefEqProofs only[go_sem,seval,↓reduceIte];refine hK5 _ ?_;refine AW.region (by kernel_rfl) ?_;simp -implicitDefEqProofs only[go_sem,seval,↓reduceIte];exact hL3 _ ⟨hk1,(),hnx hxe,Weak.st (by simp -implicitDefEqProofs only[go_sem,seval,↓reduceIte];exact congrArg _ (w64 (by omega) (by omega))) (by simp -implicitDefEqProofs only[go_sem,seval,↓reduceIte])⟩
end Go.Hs
end

section
namespace Go.Hs
open Go.Proofs
set_option maxRecDepth 10000
theorem cloneS_spec (G:Nat→V) (c:Col) (s:Sl (List UInt8)) (hs:s.l.length<1000000):InSp Tryz.prog G 42 [encSl c 1 V.str s] (sets hNone [(5005,.dead)])
  (fun v H'=>(s = .nil∧v = .nils∧H' 5005 = .dead)∨(∃ g,v = .msl 5005 g 0 s.l.length 1∧H' 5005 = .cells .new g 0 (flat (s.l.map V.str)))):=by
 refine InSp.of_code' 5000 8 [.tmp 2] Tryz.func42 rfl rfl rfl rfl fun X=>?_;simp only [sets]
 cases s with
 | nil =>
  refine AW.seq_k fun K hK=>AW.region (by kernel_rfl) ?_;simp -implicitDefEqProofs only[go_sem,seval,↓reduceIte];refine hK _ ?_;clear hK K;refine AW.seq_k fun K1 hK1=>?_;simp only [encSl];refine AW.seq_k fun K hK=>AW.region (by kernel_rfl) ?_;simp -implicitDefEqProofs only[go_sem,seval,↓reduceIte];refine hK _ ?_;clear hK K;refine AW.condS (by simp -implicitDefEqProofs only[go_sem,seval,↓reduceIte];rfl) (fun h4=>?_) (fun h4=>?_);rotate_left
  ·cases h4
  refine AW.seq_k fun K hK=>AW.region (by kernel_rfl) ?_;simp -implicitDefEqProofs only[go_sem,seval,↓reduceIte];refine hK _ ?_;clear hK K;refine AW.ret ?_;simp -implicitDefEqProofs only[go_sem,seval,↓reduceIte];refine endK_some ?_;exact .inl (by first | rfl | exact ⟨rfl,rfl,rfl⟩ | exact ⟨rfl,rfl⟩)
 | mk b l =>
  refine AW.seq_k fun K hK=>AW.region (by kernel_rfl) ?_;simp -implicitDefEqProofs only[go_sem,seval,↓reduceIte];refine hK _ ?_;clear hK K;refine AW.seq_k fun K1 hK1=>?_;have hq:(encSl c 1 V.str (.mk b l)) = .slice c b 1 (l.map V.str):=rfl;rw [hq];refine AW.seq_k fun K hK=>AW.region (by kernel_rfl) ?_;simp -implicitDefEqProofs only[go_sem,seval,↓reduceIte];refine hK _ ?_;clear hK K;refine AW.condS (by simp -implicitDefEqProofs only[go_sem,seval,↓reduceIte];rfl) (fun h4=>?_) (fun h4=>?_)
  ·cases h4
  refine AW.skip ?_;simp -implicitDefEqProofs only[go_sem,seval,↓reduceIte];refine hK1 _ ?_;refine AW.seq_k fun K hK=>AW.region (by kernel_rfl) ?_;simp -implicitDefEqProofs only[go_sem,seval,↓reduceIte];have hl:l.length<1000000:=hs;intro g;refine ⟨roomOk_of (by omega) (by rw [List.length_map];omega),fun g2=>?_⟩;refine hK _ ?_;clear hK K;refine AW.ret ?_;simp -implicitDefEqProofs only[go_sem,seval,↓reduceIte];refine endK_some ?_;exact .inr ⟨g2,by rw [List.length_map],by first | rfl | (simp -implicitDefEqProofs only[go_sem,seval,↓reduceIte];try rfl)⟩
theorem bTypes_spec (G:Nat→V) (hE:GExp G) (c c1 c2 c3:Col) (s:Sl AM) (vars events:Sl (List UInt8)) (hs:s.l.length<1000000) (hb:∀ a∈s.l,AmB a) (hv:vars.l.length<100000) (hev:events.l.length<1000000) :
  Spec Tryz.prog G 19 [.agg [encSl c 3 (encAM c1) s],encSl c2 1 V.str vars,encSl c3 1 V.str events] hNone (fun v _=>v=encTy (typesA (s.l.map AM.v) vars.l events.l)):=by
 have hG:=hE.ok;refine Spec.of_code' 0 57 [.tmp 6,.tmp 7] Tryz.func19 rfl rfl rfl rfl fun X=>?_
 have hP:typesA (s.l.map AM.v) vars.l events.l=if checkA (s.l.map AM.v)≠0 then (0,2) else typesF vars.l events.l ((s.l.map AM.v).drop 0) (0:Nat):=rfl
 generalize typesA (s.l.map AM.v) vars.l events.l=res at hP ⊢;have hck:=fun c=>bCheck_spec G hE c c1.ent s hs hb;have hok := @checkA_ok (s.l.map AM.v);have h02:=checkA_02 (s.l.map AM.v);generalize checkA (s.l.map AM.v)=ck at hP hck hok h02;refine AW.seq_k fun K hK=>AW.region (by kernel_rfl) ?_;simp -implicitDefEqProofs only[go_sem,seval,↓reduceIte];intro g3;refine hK _ ?_;clear hK K;refine AW.seq_k fun K1 hK1=>?_;refine AW.seq_k fun K hK=>AW.region (by kernel_rfl) ?_;simp -implicitDefEqProofs only[go_sem,seval,↓reduceIte];refine CallA.pure hG (by kernel_rfl) ?_;simp -implicitDefEqProofs only[go_sem,seval,↓reduceIte,recol_ams];refine (hck _).mono ?_;rintro _ _ rfl
 rcases h02 with rfl | rfl
 rotate_left
 ·simp -implicitDefEqProofs only[go_sem,seval,↓reduceIte]
  refine hK _ ?_;clear hK K;refine AW.condS (by simp -implicitDefEqProofs only[go_sem,seval,↓reduceIte];rfl) (fun h15=>?_) (fun h15=>?_);rotate_left
  ·cases h15
  refine AW.seq_k fun K hK=>AW.region (by kernel_rfl) ?_;simp -implicitDefEqProofs only[go_sem,seval,↓reduceIte];refine hK _ ?_;clear hK K;refine AW.ret ?_;simp -implicitDefEqProofs only[go_sem,seval,↓reduceIte];refine endK_some ?_;rw [hP];rfl
 simp -implicitDefEqProofs only[go_sem,seval,↓reduceIte];refine hK _ ?_;clear hK K;refine AW.condS (by simp -implicitDefEqProofs only[go_sem,seval,↓reduceIte];rfl) (fun h15=>?_) (fun h15=>?_)
 ·cases h15
 refine AW.skip ?_;simp -implicitDefEqProofs only[go_sem,seval,↓reduceIte];refine hK1 _ ?_;obtain ⟨_,hall⟩:=hok rfl;rw [if_neg (by decide)] at hP
 have hfin:∀ (NS:Sl (List UInt8)),NS.l=vars.l++[argW]→∀ x,ofTP NS.l x=ofTP (vars.l++[argW]) x:=fun NS h x=>by rw [h]
 refine AW.seqJ (fun (NS:Sl (List UInt8))=>st [(1,encSl c2 1 V.str vars),(2,encSl c3 1 V.str events),(3,.ptr 3 g3 0),(8,encSl .new 1 V.str NS)] [(3,.cells .new g3 0 [encSl c 3 (encAM c1) s])]) (fun NS=>NS.l=vars.l++[argW]) (fun K2 hK2=>?_) ?_
 ·refine AW.region (by kernel_rfl) ?_
  simp -implicitDefEqProofs only[go_sem,seval,↓reduceIte];refine CallA.inl [(5005,.dead)] (by kernel_rfl) ?_ ?_
  ·intro p hp
   rw [List.mem_singleton] at hp;subst hp;simp -implicitDefEqProofs only[go_sem,seval,↓reduceIte]
  refine (cloneS_spec G c2 vars (by omega)).mono ?_;rintro _ H' (⟨rfl,rfl,q⟩ | ⟨g5,rfl,q⟩)
  ·simp only [List.map_cons,List.map_nil,q]
   simp -implicitDefEqProofs only[go_sem,seval,↓reduceIte,sets];intro g18;refine ⟨roomOk_of (by omega) (by omega),fun h=>absurd h (by decide),fun _ g19=>?_⟩;simp -implicitDefEqProofs only[go_sem,seval,↓reduceIte];refine hK2 _ (.mk false [argW]) rfl (Weak.stF (fun o=>o==19) ?_ ?_)
   ·simp -implicitDefEqProofs only[go_sem,seval,↓reduceIte]
    refine ⟨Fz.same _,Fz.same _,Fz.same _,?_⟩;exact Fz.sl (f:=V.str) (l:=[argW]) (m:=1) (g:=g19) (fz:=0) (c := .new) rfl (by simp -implicitDefEqProofs only[go_sem,seval,↓reduceIte];try rfl) str_cells
   ·simp only [allFzO_cons,allFzO_nil,and_true]
    exact FzO.keep rfl (by simp -implicitDefEqProofs only[go_sem,seval,↓reduceIte];try rfl)
  ·simp only [List.map_cons,List.map_nil,q]
   simp -implicitDefEqProofs only[go_sem,seval,↓reduceIte,sets];intro g18
   have hcells:List.take (vars.l.length * 1) (flat (List.map V.str vars.l))++[V.str [97,114,103]]=flat ((vars.l++[argW]).map V.str):=by
    rw [List.take_of_length_le (by rw [flat_len str_cells];exact Nat.le_refl _),List.map_append,flat_app];rfl
   have e1:vars.l.length+1=(vars.l++[argW]).length:=by rw [List.length_append];rfl
   refine ⟨roomOk_of (by omega) (by omega),by rw [flat_len str_cells];exact Nat.le_refl _,Nat.zero_le _,fun g19=>?_⟩;rw [hcells];refine hK2 _ (.mk false (vars.l++[argW])) rfl (Weak.stF (fun o=>o==5005) ?_ ?_)
   ·simp -implicitDefEqProofs only[go_sem,seval,↓reduceIte]
    refine ⟨Fz.same _,Fz.same _,Fz.same _,?_⟩;rw [e1];exact Fz.sl (f:=V.str) (l:=vars.l++[argW]) (m:=1) (g:=g19) (fz:=0) (c := .new) rfl (by simp -implicitDefEqProofs only[go_sem,seval,↓reduceIte];try rfl) str_cells
   ·simp only [allFzO_cons,allFzO_nil,and_true]
    exact FzO.keep rfl (by simp -implicitDefEqProofs only[go_sem,seval,↓reduceIte];try rfl)
 intro NS hNl;have hcg:=hfin NS hNl;have hof:=fun c c1 (x:Sl XN) (h1:x.l.length<1000000) h2=>tOf_spec G hE c c1 x NS h1 h2 (by rw [hNl,List.length_append];show _+1<_;omega);clear hfin;refine AW.seq_k fun K2 hK2=>?_;refine AW.seq_k fun K hK=>AW.region (by kernel_rfl) ?_;simp -implicitDefEqProofs only[go_sem,seval,↓reduceIte];refine hK _ ?_;clear hK K;refine AW.block ?_
 refine AW.for s.l.length (fun k (_:Unit)=>st [(1,encSl c2 1 V.str vars),(2,encSl c3 1 V.str events),(8,encSl .new 1 V.str NS),(21,encSl c 3 (encAM c1) s),(22,.int .i64 s.l.length),(23,.int .i64 k)] [])
  (fun k _=>typesF vars.l events.l ((s.l.map AM.v).drop k) (k:Nat)=res) 0 () (Nat.zero_le _) hP.symm
  (Weak.st (by simp -implicitDefEqProofs only[go_sem,seval,↓reduceIte];try rfl) (by simp -implicitDefEqProofs only[go_sem,seval,↓reduceIte];try rfl)) ?_
 rintro k _ hk hR L3 hL3;refine AW.seq_k fun K hK=>AW.region (by kernel_rfl) ?_;simp -implicitDefEqProofs only[go_sem,seval,↓reduceIte];refine hK _ ?_;clear hK K;refine AW.seq_k fun K4 hK4=>?_;refine AW.condS (by simp -implicitDefEqProofs only[go_sem,seval,↓reduceIte];rfl) (fun h24=>?_) (fun h24=>?_);rotate_left
 ·have hk1:k=s.l.length:=by have h24:decide ((k:Int)<s.l.length)=false:=h24;simp at h24;omega
  refine AW.exit ?_;simp -implicitDefEqProofs only[go_sem,seval,↓reduceIte];refine hK2 _ ?_;rw [List.drop_of_length_le (by rw [List.length_map];omega)] at hR;refine AW.seq_k fun K hK=>AW.region (by kernel_rfl) ?_;simp -implicitDefEqProofs only[go_sem,seval,↓reduceIte];refine hK _ ?_;clear hK K;refine AW.ret ?_;simp -implicitDefEqProofs only[go_sem,seval,↓reduceIte];refine endK_some ?_;rw [← hR];rfl
 have hk1:k<s.l.length:=by have h24:decide ((k:Int)<s.l.length)=true:=h24;simp at h24;omega
 have hg:=List.getElem?_eq_getElem hk1;have hba:=hb _ (List.getElem_mem hk1);have hsta:=hall _ (List.mem_map_of_mem (f:=AM.v) (List.getElem_mem hk1))
 have hgv:(s.l.map AM.v)[k]? = some (s.l[k]).v:=by rw [List.getElem?_map,hg];rfl
 rw [typesF_drop hgv] at hR;generalize s.l[k]=a at hg hba hsta hR;have hkd:=stOk_kind hsta;have hst:stT vars.l events.l a.v=((if a.kind=2 then events.l.contains a.name else vars.l.contains a.name) && exprT (vars.l++[argW]) a.x.l):=rfl;refine AW.skip ?_;simp -implicitDefEqProofs only[go_sem,seval,↓reduceIte];refine hK4 _ ?_;refine AW.seq_k fun K5 hK5=>?_;refine AW.block ?_;refine AW.seq_k fun K hK=>AW.region (by kernel_rfl) ?_;simp -implicitDefEqProofs only[go_sem,seval,↓reduceIte,hg,encAM_K];intro g10;refine hK _ ?_;clear hK K;refine AW.seq_k fun K hK=>AW.region (by kernel_rfl) ?_;simp -implicitDefEqProofs only[go_sem,seval,↓reduceIte];refine hK _ ?_;clear hK K
 refine AW.seqJ (fun (NK:Sl (List UInt8))=>st [(1,encSl c2 1 V.str vars),(2,encSl c3 1 V.str events),(8,encSl .new 1 V.str NS),(9,.int .i64 k),(10,.ptr 10 g10 0),(11,encSl (if a.kind=2 then c3 else c2) 1 V.str NK),(21,encSl c 3 (encAM c1) s),(22,.int .i64 s.l.length),(23,.int .i64 k)] [(10,.cells .new g10 0 [.int .u8 a.kind,.str a.name,encSl c1 6 encXN a.x])])
  (fun NK=>NK.l.length<1000000∧NK.l.contains a.name=(if a.kind=2 then events.l.contains a.name else vars.l.contains a.name)) (fun K6 hK6=>?_) ?_
 ·rcases hkd with hk0 | hk0
  ·have hk0:a.kind=1:=hk0
   have q2:(a.kind==2)=false:=by rw [hk0];rfl
   rw [if_neg (by rw [hk0];decide),if_neg (by rw [hk0];decide)] at hK6;refine AW.seq_k fun K hK=>AW.region (by kernel_rfl) ?_;simp -implicitDefEqProofs only[go_sem,seval,↓reduceIte,q2];refine hK _ ?_;clear hK K;refine AW.condS (by simp -implicitDefEqProofs only[go_sem,seval,↓reduceIte];rfl) (fun h31=>?_) (fun h31=>?_)
   ·cases h31
   refine AW.skip ?_;simp -implicitDefEqProofs only[go_sem,seval,↓reduceIte];exact hK6 _ vars ⟨by omega,rfl⟩ (Weak.st (by simp -implicitDefEqProofs only[go_sem,seval,↓reduceIte];try rfl) (by simp -implicitDefEqProofs only[go_sem,seval,↓reduceIte];try rfl))
  ·have hk0:a.kind=2:=hk0
   have q2:(a.kind==2)=true:=by simpa using hk0
   rw [if_pos hk0,if_pos hk0] at hK6;refine AW.seq_k fun K hK=>AW.region (by kernel_rfl) ?_;simp -implicitDefEqProofs only[go_sem,seval,↓reduceIte,q2];refine hK _ ?_;clear hK K;refine AW.condS (by simp -implicitDefEqProofs only[go_sem,seval,↓reduceIte];rfl) (fun h31=>?_) (fun h31=>?_);rotate_left
   ·cases h31
   refine AW.region (by kernel_rfl) ?_;simp -implicitDefEqProofs only[go_sem,seval,↓reduceIte];exact hK6 _ events ⟨hev,rfl⟩ (Weak.st (by simp -implicitDefEqProofs only[go_sem,seval,↓reduceIte];try rfl) (by simp -implicitDefEqProofs only[go_sem,seval,↓reduceIte];try rfl))
 rintro NK ⟨hNK,hNKc⟩;generalize (if a.kind=2 then c3 else c2)=cK;rw [← hNKc] at hst;refine AW.seq_k fun K hK=>AW.region (by kernel_rfl) ?_;simp -implicitDefEqProofs only[go_sem,seval,↓reduceIte];refine hK _ ?_;clear hK K
 refine AW.seqJ (fun (kd0:Int)=>st [(1,encSl c2 1 V.str vars),(2,encSl c3 1 V.str events),(8,encSl .new 1 V.str NS),(9,.int .i64 k),(10,.ptr 10 g10 0),(11,encSl cK 1 V.str NK),(12,.int .u8 kd0),(21,encSl c 3 (encAM c1) s),(22,.int .i64 s.l.length),(23,.int .i64 k)] [(10,.cells .new g10 0 [.int .u8 a.kind,.str a.name,encSl c1 6 encXN a.x])])
  (fun kd0=>(kd0==1)=exprT (vars.l++[argW]) a.x.l) (fun K7 hK7=>?_) ?_
 ·by_cases hx0:a.x.l.length=0
  ·have hxe:exprT (vars.l++[argW]) a.x.l=true:=by unfold exprT;rw [List.length_eq_zero_iff.1 hx0];rfl
   have q5:decide ((a.x.l.length:Int) > 0)=false:=by rw [decide_eq_false_iff_not];omega
   refine AW.seq_k fun K hK=>AW.region (by kernel_rfl) ?_;simp -implicitDefEqProofs only[go_sem,seval,↓reduceIte,q5];refine hK _ ?_;clear hK K;refine AW.condS (by simp -implicitDefEqProofs only[go_sem,seval,↓reduceIte];rfl) (fun h37=>?_) (fun h37=>?_)
   ·cases h37
   refine AW.skip ?_;simp -implicitDefEqProofs only[go_sem,seval,↓reduceIte];exact hK7 _ 1 (by rw [hxe];rfl) (Weak.st (by simp -implicitDefEqProofs only[go_sem,seval,↓reduceIte];try rfl) (by simp -implicitDefEqProofs only[go_sem,seval,↓reduceIte];try rfl))
  have q5:decide ((a.x.l.length:Int) > 0)=true:=by rw [decide_eq_true_iff];omega
  have hxe:exprT (vars.l++[argW]) a.x.l=((ofTP NS.l a.x.l).1==1):=by
   unfold exprT;rw [← hcg]
   cases hq:a.x.l with
   | nil=>rw [hq] at hx0;exact absurd rfl hx0
   | cons=>rfl
  refine AW.seq_k fun K hK=>AW.region (by kernel_rfl) ?_;simp -implicitDefEqProofs only[go_sem,seval,↓reduceIte,q5];refine hK _ ?_;clear hK K;refine AW.condS (by simp -implicitDefEqProofs only[go_sem,seval,↓reduceIte];rfl) (fun h37=>?_) (fun h37=>?_);rotate_left
  ·cases h37
  refine AW.region (by kernel_rfl) ?_;simp -implicitDefEqProofs only[go_sem,seval,↓reduceIte];refine CallA.pure hG (by kernel_rfl) ?_;simp -implicitDefEqProofs only[go_sem,seval,↓reduceIte,recol_xns];refine (hof _ _ a.x hba.l hba.x).mono ?_;rintro _ _ rfl;generalize ofTP NS.l a.x.l=r at hxe;obtain ⟨kd0,i0,e0⟩:=r;simp -implicitDefEqProofs only[go_sem,seval,↓reduceIte,encO3];exact hK7 _ kd0 hxe.symm (Weak.st (by simp -implicitDefEqProofs only[go_sem,seval,↓reduceIte];try rfl) (by simp -implicitDefEqProofs only[go_sem,seval,↓reduceIte];try rfl))
 intro kd0 hkd0
 cases q6:(kd0==1) with
 | false =>
  rw [← hkd0,q6,Bool.and_false] at hst;rw [if_neg (by rw [hst];decide)] at hR;refine AW.seq_k fun K hK=>AW.region (by kernel_rfl) ?_;simp -implicitDefEqProofs only[go_sem,seval,↓reduceIte,bne,q6];refine hK _ ?_;clear hK K;refine AW.condS (by simp -implicitDefEqProofs only[go_sem,seval,↓reduceIte];rfl) (fun h54=>?_) (fun h54=>?_);rotate_left
  ·cases h54
  refine AW.seq_k fun K hK=>AW.region (by kernel_rfl) ?_;simp -implicitDefEqProofs only[go_sem,seval,↓reduceIte];refine hK _ ?_;clear hK K;refine AW.ret ?_;simp -implicitDefEqProofs only[go_sem,seval,↓reduceIte];refine endK_some ?_;rw [← hR];rfl
 | true =>
  rw [← hkd0,q6,Bool.and_true] at hst;refine AW.seq_k fun K hK=>AW.region (by kernel_rfl) ?_;simp -implicitDefEqProofs only[go_sem,seval,↓reduceIte,bne,q6];refine CallA.pure hG (by kernel_rfl) ?_;simp -implicitDefEqProofs only[go_sem,seval,↓reduceIte];refine (sContains_spec G hG _ a.name NK hNK).mono ?_;rintro _ _ rfl;simp -implicitDefEqProofs only[go_sem,seval,↓reduceIte];refine hK _ ?_;clear hK K
  cases q7:NK.l.contains a.name with
  | false =>
   rw [q7] at hst;rw [if_neg (by rw [hst];decide)] at hR;refine AW.condS (by simp -implicitDefEqProofs only[go_sem,seval,↓reduceIte];rfl) (fun h54=>?_) (fun h54=>?_);rotate_left
   ·cases h54
   refine AW.seq_k fun K hK=>AW.region (by kernel_rfl) ?_;simp -implicitDefEqProofs only[go_sem,seval,↓reduceIte];refine hK _ ?_;clear hK K;refine AW.ret ?_;simp -implicitDefEqProofs only[go_sem,seval,↓reduceIte];refine endK_some ?_;rw [← hR];rfl
  | true =>
   rw [q7] at hst;rw [if_pos hst] at hR;refine AW.condS (by simp -implicitDefEqProofs only[go_sem,seval,↓reduceIte];rfl) (fun h54=>?_) (fun h54=>?_)
   ·cases h54
   refine AW.skip ?_;simp -implicitDefEqProofs only[go_sem,seval,↓reduceIte];refine hK5 _ ?_;refine AW.region (by kernel_rfl) ?_;simp -implicitDefEqProofs only[go_sem,seval,↓reduceIte];exact hL3 _ ⟨hk1,(),hR,Weak.st (by simp -implicitDefEqProofs only[go_sem,seval,↓reduceIte];exact congrArg _ (w64 (by omega) (by omega))) (by simp -implicitDefEqProofs only[go_sem,seval,↓reduceIte])⟩
end Go.Hs
end

section
namespace Go.Hs
open Go.Proofs
set_option maxRecDepth 10000
theorem wRef11_spec (G:Nat→V) (hG:GOk G) (c c1:Col) (s:Sl AM) (hs:s.l.length<1000000) (hx:∀ a∈s.l,a.x.l.length<1000000) :
  Spec Tryz.prog G 16 [.agg [encSl c 3 (encAM c1) s]] hNone (fun v _=>v=encABs .new (s.l.map AM.v)):=by
 refine Spec.of_code' 0 63 [.tmp 2] Tryz.func16 rfl rfl rfl rfl fun X=>?_;refine AW.seq_k fun K hK=>AW.region (by kernel_rfl) ?_;simp -implicitDefEqProofs only[go_sem,seval,↓reduceIte];intro g1;refine hK _ ?_;clear hK K;refine AW.seq_k fun K hK=>AW.region (by kernel_rfl) ?_;simp -implicitDefEqProofs only[go_sem,seval,↓reduceIte];refine hK _ ?_;clear hK K;refine AW.seq_k fun K2 hK2=>?_;refine AW.seq_k fun K hK=>AW.region (by kernel_rfl) ?_;simp -implicitDefEqProofs only[go_sem,seval,↓reduceIte];refine hK _ ?_;clear hK K;refine AW.block ?_
 refine AW.for s.l.length (fun k (gx:Nat)=>st [(1,.ptr 1 g1 0),(3,grown 61 gx 3 ((s.l.take k).map AM.v)),(4,.int .i64 k)] [(1,.cells .new g1 0 [encSl c 3 (encAM c1) s]),(61,grownO gx (encAS .new) ((s.l.take k).map AM.v))])
  (fun k _=>True) 0 0 (Nat.zero_le _) trivial
  (Weak.st (by simp -implicitDefEqProofs only[go_sem,seval,↓reduceIte];try rfl) (by simp -implicitDefEqProofs only[go_sem,seval,↓reduceIte];try rfl)) ?_
 intro k gx hk _ L3 hL3;refine AW.seq_k fun K4 hK4=>?_;refine AW.seq_k fun K hK=>AW.region (by kernel_rfl) ?_;simp -implicitDefEqProofs only[go_sem,seval,↓reduceIte];refine hK _ ?_;clear hK K;refine AW.condS (by simp -implicitDefEqProofs only[go_sem,seval,↓reduceIte];rfl) (fun h13=>?_) (fun h13=>?_);rotate_left
 ·have hk1:k=s.l.length:=by have h13:decide ((k:Int)<s.l.length)=false:=h13;simp at h13;omega
  refine AW.exit ?_;simp -implicitDefEqProofs only[go_sem,seval,↓reduceIte];refine hK2 _ ?_;rw [hk1,List.take_length];refine AW.weak (Weak.stF (fun o=>o==61) (l:=[(3,encABs .new (s.l.map AM.v))]) (m:=[]) ?_ trivial) ?_
  ·simp -implicitDefEqProofs only[go_sem,seval,↓reduceIte]
   exact Fz.grown rfl (by simp -implicitDefEqProofs only[go_sem,seval,↓reduceIte];try rfl) (encAS_cells _)
  refine AW.seq_k fun K hK=>AW.region (by kernel_rfl) ?_;simp -implicitDefEqProofs only[go_sem,seval,↓reduceIte];refine hK _ ?_;clear hK K;refine AW.ret ?_;simp -implicitDefEqProofs only[go_sem,seval,↓reduceIte];refine endK_some ?_;rfl
 have hk1:k<s.l.length:=by have h13:decide ((k:Int)<s.l.length)=true:=h13;simp at h13;omega
 have hg:=List.getElem?_eq_getElem hk1;have hxa:=hx _ (List.getElem_mem hk1)
 have htk:(s.l.take (k+1)).map AM.v=(s.l.take k).map AM.v++[(s.l[k]).v]:=by rw [List.take_succ_eq_append_getElem hk1,List.map_append];rfl
 have hlt:((s.l.take k).map AM.v).length=k:=by rw [List.length_map,List.length_take];omega
 generalize s.l[k]=a at hg hxa htk;generalize (s.l.take k).map AM.v=acc at htk hlt ⊢;refine AW.skip ?_;simp -implicitDefEqProofs only[go_sem,seval,↓reduceIte];refine hK4 _ ?_;refine AW.seq_k fun K5 hK5=>?_;refine AW.block ?_;refine AW.seq_k fun K hK=>AW.region (by kernel_rfl) ?_;simp -implicitDefEqProofs only[go_sem,seval,↓reduceIte,hg,encAM_K];intro g5;refine hK _ ?_;clear hK K;refine AW.seq_k fun K hK=>AW.region (by kernel_rfl) ?_;simp -implicitDefEqProofs only[go_sem,seval,↓reduceIte];intro g6;refine hK _ ?_;clear hK K;refine AW.seq_k fun K6 hK6=>?_;refine AW.seq_k fun K hK=>AW.region (by kernel_rfl) ?_;simp -implicitDefEqProofs only[go_sem,seval,↓reduceIte];refine hK _ ?_;clear hK K;refine AW.block ?_
 refine AW.for a.x.l.length (fun j (gy:Nat)=>st [(1,.ptr 1 g1 0),(3,grown 61 gx 3 acc),(4,.int .i64 k),(5,.ptr 5 g5 0),(6,.ptr 6 g6 0),(7,.int .i64 j)]
   [(1,.cells .new g1 0 [encSl c 3 (encAM c1) s]),(61,grownO gx (encAS .new) acc),(5,.cells .new g5 0 [.int .u8 a.kind,.str a.name,encSl c1 6 encXN a.x]),(6,.cells .new g6 0 [.int .u8 a.kind,.str a.name,grown 56 gy 6 (a.x.l.take j)]),(56,grownO gy encXN (a.x.l.take j))])
  (fun j _=>True) 0 0 (Nat.zero_le _) trivial
  (Weak.st (by simp -implicitDefEqProofs only[go_sem,seval,↓reduceIte];try rfl) (by simp -implicitDefEqProofs only[go_sem,seval,↓reduceIte];exact ⟨rfl,rfl⟩)) ?_
 intro j gy hj _ L7 hL7;refine AW.seq_k fun K8 hK8=>?_;refine AW.seq_k fun K hK=>AW.region (by kernel_rfl) ?_;simp -implicitDefEqProofs only[go_sem,seval,↓reduceIte];refine hK _ ?_;clear hK K;refine AW.condS (by simp -implicitDefEqProofs only[go_sem,seval,↓reduceIte];rfl) (fun h31=>?_) (fun h31=>?_);rotate_left
 ·have hj1:j=a.x.l.length:=by have h31:decide ((j:Int)<a.x.l.length)=false:=h31;simp at h31;omega
  refine AW.exit ?_;simp -implicitDefEqProofs only[go_sem,seval,↓reduceIte];refine hK6 _ ?_;rw [hj1,List.take_length];refine AW.weak (Weak.stF (fun o=>o==56) (l:=[(1,.ptr 1 g1 0),(3,grown 61 gx 3 acc),(4,.int .i64 k),(6,.ptr 6 g6 0)]) (m:=[(1,.cells .new g1 0 [encSl c 3 (encAM c1) s]),(61,grownO gx (encAS .new) acc),(6,.cells .new g6 0 [.int .u8 a.kind,.str a.name,encSl .new 6 encXN (grownS a.x.l)])]) ?_ ?_) ?_
  ·simp -implicitDefEqProofs only[go_sem,seval,↓reduceIte]
   exact ⟨Fz.same _,Fz.same _,Fz.same _,Fz.same _⟩
  ·simp only [allFzO_cons,allFzO_nil,and_true]
   exact ⟨FzO.keep rfl (by simp -implicitDefEqProofs only[go_sem,seval,↓reduceIte];try rfl),FzO.keep rfl (by simp -implicitDefEqProofs only[go_sem,seval,↓reduceIte];try rfl),FzO.of (c := .new) (fz:=0) (cs:=[.int .u8 a.kind,.str a.name,grown 56 gy 6 a.x.l]) rfl (by simp -implicitDefEqProofs only[go_sem,seval,↓reduceIte];try rfl) ⟨Fz.same _,Fz.same _,Fz.grown rfl (by simp -implicitDefEqProofs only[go_sem,seval,↓reduceIte];try rfl) encXN_cells,trivial⟩⟩
  refine AW.region (by kernel_rfl) ?_;simp -implicitDefEqProofs only[go_sem,seval,↓reduceIte];intro g60;refine app_grown (f:=encAS .new) (l:=acc) (l2:=[a.v]) (g:=gx) (encAS_cells _) rfl rfl rfl (by simp -implicitDefEqProofs only[go_sem,seval,↓reduceIte];try rfl) (roomOk_of (by omega) (by simp;omega)) fun g2=>?_;simp -implicitDefEqProofs only[go_sem,seval,↓reduceIte];refine hK5 _ ?_;refine AW.region (by kernel_rfl) ?_;simp -implicitDefEqProofs only[go_sem,seval,↓reduceIte];refine hL3 _ ⟨hk1,g2,trivial,Weak.st (by simp -implicitDefEqProofs only[go_sem,seval,↓reduceIte];exact ⟨by rw [htk],congrArg _ (w64 (by omega) (by omega))⟩) (by simp -implicitDefEqProofs only[go_sem,seval,↓reduceIte];rw [htk];try rfl)⟩
 have hj1:j<a.x.l.length:=by have h31:decide ((j:Int)<a.x.l.length)=true:=h31;simp at h31;omega
 have hgj:=List.getElem?_eq_getElem hj1
 have htj:a.x.l.take (j+1)=a.x.l.take j++[a.x.l[j]]:=by rw [List.take_succ_eq_append_getElem hj1]
 have hlj:(a.x.l.take j).length=j:=by rw [List.length_take];omega
 generalize a.x.l[j]=n at hgj htj;generalize a.x.l.take j=ns at htj hlj ⊢;refine AW.skip ?_;simp -implicitDefEqProofs only[go_sem,seval,↓reduceIte];refine hK8 _ ?_;refine AW.seq_k fun K9 hK9=>?_;refine AW.block ?_;refine AW.seq_k fun K hK=>AW.region (by kernel_rfl) ?_;simp -implicitDefEqProofs only[go_sem,seval,↓reduceIte,hgj,encXN_K];intro g8;refine hK _ ?_;clear hK K;refine AW.region (by kernel_rfl) ?_;simp -implicitDefEqProofs only[go_sem,seval,↓reduceIte];intro g55;refine app_grown (f:=encXN) (l:=ns) (l2:=[n]) (g:=gy) encXN_cells rfl rfl rfl (by simp -implicitDefEqProofs only[go_sem,seval,↓reduceIte];try rfl) (roomOk_of (by omega) (by simp;omega)) fun g2=>?_;simp -implicitDefEqProofs only[go_sem,seval,↓reduceIte];refine hK9 _ ?_;refine AW.region (by kernel_rfl) ?_;simp -implicitDefEqProofs only[go_sem,seval,↓reduceIte];refine hL7 _ ⟨hj1,g2,trivial,Weak.st (by simp -implicitDefEqProofs only[go_sem,seval,↓reduceIte];exact congrArg _ (w64 (by omega) (by omega))) (by simp -implicitDefEqProofs only[go_sem,seval,↓reduceIte];rw [htj];try exact ⟨rfl,rfl⟩)⟩
end Go.Hs
end

section
namespace Go.Hs
open Go.Proofs
set_option maxRecDepth 10000
def fewN (l:List (List UInt8)):Bool:=l.all (fun n=>decide (n.length≤100)) && decide (l.length≤20)
def fewS (a:AM):Bool:=decide (a.name.length≤100∧a.x.l.length≤40) && a.x.l.all (fun n=>decide (n.name.length≤100))
def fewB (l:List AM):Bool:=decide (l.length≤20) && l.all fewS
theorem wNames11_spec (G:Nat→V) (hG:GOk G) (c:Col) (s:Sl (List UInt8)) (hs:s.l.length≤9223372036854775807) :
  Spec Tryz.prog G 18 [encSl c 1 V.str s] hNone (fun v _=>v = .bool (fewN s.l)):=by
 refine Spec.of_code' 0 19 [.tmp 2] Tryz.func18 rfl rfl rfl rfl fun X=>?_;have hP:fewN s.l=(s.l.all (fun n=>decide (n.length≤100)) && decide (s.l.length≤20)):=rfl;generalize fewN s.l=res at hP ⊢;refine AW.seq_k fun K hK=>AW.region (by kernel_rfl) ?_;simp -implicitDefEqProofs only[go_sem,seval,↓reduceIte];refine hK _ ?_;clear hK K;refine AW.seq_k fun K1 hK1=>?_;refine AW.seq_k fun K hK=>AW.region (by kernel_rfl) ?_;simp -implicitDefEqProofs only[go_sem,seval,↓reduceIte];refine hK _ ?_;clear hK K;refine AW.block ?_
 refine AW.for s.l.length (fun k (_:Unit)=>st [(0,encSl c 1 V.str s),(3,.int .i64 k)] []) (fun k _=>(s.l.take k).all (fun n=>decide (n.length≤100))=true) 0 () (Nat.zero_le _) rfl
  (Weak.st (by simp -implicitDefEqProofs only[go_sem,seval,↓reduceIte];try rfl) (by simp -implicitDefEqProofs only[go_sem,seval,↓reduceIte])) ?_
 intro k _ hk hR L3 hL3;refine AW.seq_k fun K4 hK4=>?_;refine AW.seq_k fun K hK=>AW.region (by kernel_rfl) ?_;simp -implicitDefEqProofs only[go_sem,seval,↓reduceIte];refine hK _ ?_;clear hK K;refine AW.condS (by simp -implicitDefEqProofs only[go_sem,seval,↓reduceIte];rfl) (fun h7=>?_) (fun h7=>?_);rotate_left
 ·have hk1:k=s.l.length:=by have h7:decide ((k:Int)<s.l.length)=false:=h7;simp at h7;omega
  refine AW.exit ?_;simp -implicitDefEqProofs only[go_sem,seval,↓reduceIte];refine hK1 _ ?_;rw [hk1,List.take_length] at hR;rw [hR,Bool.true_and] at hP;refine AW.seq_k fun K hK=>AW.region (by kernel_rfl) ?_;simp -implicitDefEqProofs only[go_sem,seval,↓reduceIte];refine hK _ ?_;clear hK K;refine AW.ret ?_;simp -implicitDefEqProofs only[go_sem,seval,↓reduceIte];refine endK_some ?_;rw [hP];refine congrArg V.bool ?_;rw [Bool.eq_iff_iff,decide_eq_true_iff,decide_eq_true_iff];omega
 have hk1:k<s.l.length:=by have h7:decide ((k:Int)<s.l.length)=true:=h7;simp at h7;omega
 have hg:=List.getElem?_eq_getElem hk1;generalize s.l[k]=x at hg;refine AW.skip ?_;simp -implicitDefEqProofs only[go_sem,seval,↓reduceIte];refine hK4 _ ?_;refine AW.seq_k fun K5 hK5=>?_;refine AW.block ?_;refine AW.seq_k fun K hK=>AW.region (by kernel_rfl) ?_;simp -implicitDefEqProofs only[go_sem,seval,↓reduceIte,hg];refine hK _ ?_;clear hK K
 by_cases hx:x.length > 100
 ·have q3:decide (((x.length:Nat):Int) > 100)=true:=by rw [decide_eq_true_iff];omega
  rw [all_false _ hg (by simpa using hx),Bool.false_and] at hP;rw [q3];refine AW.condS (by simp -implicitDefEqProofs only[go_sem,seval,↓reduceIte];rfl) (fun h15=>?_) (fun h15=>?_);rotate_left
  ·cases h15
  refine AW.seq_k fun K hK=>AW.region (by kernel_rfl) ?_;simp -implicitDefEqProofs only[go_sem,seval,↓reduceIte];refine hK _ ?_;clear hK K;refine AW.ret ?_;simp -implicitDefEqProofs only[go_sem,seval,↓reduceIte];refine endK_some ?_;rw [hP]
 have q3:decide (((x.length:Nat):Int) > 100)=false:=by rw [decide_eq_false_iff_not];omega
 rw [q3];refine AW.condS (by simp -implicitDefEqProofs only[go_sem,seval,↓reduceIte];rfl) (fun h15=>?_) (fun h15=>?_)
 ·cases h15
 refine AW.skip ?_;simp -implicitDefEqProofs only[go_sem,seval,↓reduceIte];refine hK5 _ ?_;refine AW.region (by kernel_rfl) ?_;simp -implicitDefEqProofs only[go_sem,seval,↓reduceIte];exact hL3 _ ⟨hk1,(),all_take_succ _ hg hR (by simpa using hx),Weak.st (by simp -implicitDefEqProofs only[go_sem,seval,↓reduceIte];exact congrArg _ (w64 (by omega) (by omega))) (by simp -implicitDefEqProofs only[go_sem,seval,↓reduceIte])⟩
theorem wFew11_spec (G:Nat→V) (hG:GOk G) (c c1:Col) (s:Sl AM) :
  Spec Tryz.prog G 20 [.agg [encSl c 3 (encAM c1) s]] hNone (fun v _=>v = .bool (fewB s.l)):=by
 refine Spec.of_code' 0 50 [.tmp 2] Tryz.func20 rfl rfl rfl rfl fun X=>?_;have hP:fewB s.l=(decide (s.l.length≤20) && s.l.all fewS):=rfl;generalize fewB s.l=res at hP ⊢;refine AW.seq_k fun K hK=>AW.region (by kernel_rfl) ?_;simp -implicitDefEqProofs only[go_sem,seval,↓reduceIte];intro g1;refine hK _ ?_;clear hK K;refine AW.seq_k fun K1 hK1=>?_
 by_cases h1:s.l.length > 20
 ·have q1:decide (((s.l.length:Nat):Int) > 20)=true:=by rw [decide_eq_true_iff];omega
  rw [decide_eq_false (by omega),Bool.false_and] at hP;refine AW.seq_k fun K hK=>AW.region (by kernel_rfl) ?_;simp -implicitDefEqProofs only[go_sem,seval,↓reduceIte,q1];refine hK _ ?_;clear hK K;refine AW.condS (by simp -implicitDefEqProofs only[go_sem,seval,↓reduceIte];rfl) (fun h9=>?_) (fun h9=>?_);rotate_left
  ·cases h9
  refine AW.seq_k fun K hK=>AW.region (by kernel_rfl) ?_;simp -implicitDefEqProofs only[go_sem,seval,↓reduceIte];refine hK _ ?_;clear hK K;refine AW.ret ?_;simp -implicitDefEqProofs only[go_sem,seval,↓reduceIte];refine endK_some ?_;rw [hP]
 have q1:decide (((s.l.length:Nat):Int) > 20)=false:=by rw [decide_eq_false_iff_not];omega
 rw [decide_eq_true (by omega),Bool.true_and] at hP;refine AW.seq_k fun K hK=>AW.region (by kernel_rfl) ?_;simp -implicitDefEqProofs only[go_sem,seval,↓reduceIte,q1];refine hK _ ?_;clear hK K;refine AW.condS (by simp -implicitDefEqProofs only[go_sem,seval,↓reduceIte];rfl) (fun h9=>?_) (fun h9=>?_)
 ·cases h9
 refine AW.skip ?_;simp -implicitDefEqProofs only[go_sem,seval,↓reduceIte];refine hK1 _ ?_;refine AW.seq_k fun K2 hK2=>?_;refine AW.seq_k fun K hK=>AW.region (by kernel_rfl) ?_;simp -implicitDefEqProofs only[go_sem,seval,↓reduceIte];refine hK _ ?_;clear hK K;refine AW.block ?_
 refine AW.for s.l.length (fun k (_:Unit)=>st [(1,.ptr 1 g1 0),(3,.int .i64 k)] [(1,.cells .new g1 0 [encSl c 3 (encAM c1) s])]) (fun k _=>(s.l.take k).all fewS=true) 0 () (Nat.zero_le _) rfl
  (Weak.st (by simp -implicitDefEqProofs only[go_sem,seval,↓reduceIte];try rfl) (by simp -implicitDefEqProofs only[go_sem,seval,↓reduceIte])) ?_
 intro k _ hk hR L3 hL3;refine AW.seq_k fun K4 hK4=>?_;refine AW.seq_k fun K hK=>AW.region (by kernel_rfl) ?_;simp -implicitDefEqProofs only[go_sem,seval,↓reduceIte];refine hK _ ?_;clear hK K;refine AW.condS (by simp -implicitDefEqProofs only[go_sem,seval,↓reduceIte];rfl) (fun h14=>?_) (fun h14=>?_);rotate_left
 ·have hk1:k=s.l.length:=by have h14:decide ((k:Int)<s.l.length)=false:=h14;simp at h14;omega
  refine AW.exit ?_;simp -implicitDefEqProofs only[go_sem,seval,↓reduceIte];refine hK2 _ ?_;rw [hk1,List.take_length] at hR;refine AW.seq_k fun K hK=>AW.region (by kernel_rfl) ?_;simp -implicitDefEqProofs only[go_sem,seval,↓reduceIte];refine hK _ ?_;clear hK K;refine AW.ret ?_;simp -implicitDefEqProofs only[go_sem,seval,↓reduceIte];refine endK_some ?_;rw [hP,hR]
 have hk1:k<s.l.length:=by have h14:decide ((k:Int)<s.l.length)=true:=h14;simp at h14;omega
 have hg:=List.getElem?_eq_getElem hk1;generalize s.l[k]=a at hg;refine AW.skip ?_;simp -implicitDefEqProofs only[go_sem,seval,↓reduceIte];refine hK4 _ ?_;refine AW.seq_k fun K5 hK5=>?_;refine AW.block ?_;have hfs:fewS a=(decide (a.name.length≤100∧a.x.l.length≤40) && a.x.l.all (fun n=>decide (n.name.length≤100))):=rfl;refine AW.seq_k fun K hK=>AW.region (by kernel_rfl) ?_;simp -implicitDefEqProofs only[go_sem,seval,↓reduceIte,hg,encAM_K];intro g4;refine hK _ ?_;clear hK K;refine AW.seq_k fun K6 hK6=>?_
 by_cases h2:a.name.length > 100
 ·have q2:decide (((a.name.length:Nat):Int) > 100)=true:=by rw [decide_eq_true_iff];omega
  rw [decide_eq_false (by omega),Bool.false_and] at hfs;rw [all_false _ hg hfs] at hP;refine AW.seq_k fun K hK=>AW.region (by kernel_rfl) ?_;simp -implicitDefEqProofs only[go_sem,seval,↓reduceIte,q2];refine hK _ ?_;clear hK K;refine AW.condS (by simp -implicitDefEqProofs only[go_sem,seval,↓reduceIte];rfl) (fun h32=>?_) (fun h32=>?_);rotate_left
  ·cases h32
  refine AW.seq_k fun K hK=>AW.region (by kernel_rfl) ?_;simp -implicitDefEqProofs only[go_sem,seval,↓reduceIte];refine hK _ ?_;clear hK K;refine AW.ret ?_;simp -implicitDefEqProofs only[go_sem,seval,↓reduceIte];refine endK_some ?_;rw [hP]
 have q2:decide (((a.name.length:Nat):Int) > 100)=false:=by rw [decide_eq_false_iff_not];omega
 by_cases h3:a.x.l.length > 40
 ·have q3:decide (((a.x.l.length:Nat):Int) > 40)=true:=by rw [decide_eq_true_iff];omega
  rw [decide_eq_false (by omega),Bool.false_and] at hfs;rw [all_false _ hg hfs] at hP;refine AW.seq_k fun K hK=>AW.region (by kernel_rfl) ?_;simp -implicitDefEqProofs only[go_sem,seval,↓reduceIte,q2,q3];refine hK _ ?_;clear hK K;refine AW.condS (by simp -implicitDefEqProofs only[go_sem,seval,↓reduceIte];rfl) (fun h32=>?_) (fun h32=>?_);rotate_left
  ·cases h32
  refine AW.seq_k fun K hK=>AW.region (by kernel_rfl) ?_;simp -implicitDefEqProofs only[go_sem,seval,↓reduceIte];refine hK _ ?_;clear hK K;refine AW.ret ?_;simp -implicitDefEqProofs only[go_sem,seval,↓reduceIte];refine endK_some ?_;rw [hP]
 have q3:decide (((a.x.l.length:Nat):Int) > 40)=false:=by rw [decide_eq_false_iff_not];omega
 rw [decide_eq_true (by omega),Bool.true_and] at hfs;refine AW.seq_k fun K hK=>AW.region (by kernel_rfl) ?_;simp -implicitDefEqProofs only[go_sem,seval,↓reduceIte,q2,q3];refine hK _ ?_;clear hK K;refine AW.condS (by simp -implicitDefEqProofs only[go_sem,seval,↓reduceIte];rfl) (fun h32=>?_) (fun h32=>?_)
 ·cases h32
 refine AW.skip ?_;simp -implicitDefEqProofs only[go_sem,seval,↓reduceIte];refine hK6 _ ?_;refine AW.seq_k fun K hK=>AW.region (by kernel_rfl) ?_;simp -implicitDefEqProofs only[go_sem,seval,↓reduceIte];refine hK _ ?_;clear hK K;refine AW.block ?_
 refine AW.for a.x.l.length (fun j (_:Unit)=>st [(1,.ptr 1 g1 0),(3,.int .i64 k),(4,.ptr 4 g4 0),(5,.int .i64 j)] [(1,.cells .new g1 0 [encSl c 3 (encAM c1) s]),(4,.cells .new g4 0 [.int .u8 a.kind,.str a.name,encSl c1 6 encXN a.x])])
  (fun j _=>(a.x.l.take j).all (fun n=>decide (n.name.length≤100))=true) 0 () (Nat.zero_le _) rfl
  (Weak.st (by simp -implicitDefEqProofs only[go_sem,seval,↓reduceIte];try rfl) (by simp -implicitDefEqProofs only[go_sem,seval,↓reduceIte];try rfl)) ?_
 intro j _ hj hR2 L7 hL7;refine AW.seq_k fun K8 hK8=>?_;refine AW.seq_k fun K hK=>AW.region (by kernel_rfl) ?_;simp -implicitDefEqProofs only[go_sem,seval,↓reduceIte];refine hK _ ?_;clear hK K;refine AW.condS (by simp -implicitDefEqProofs only[go_sem,seval,↓reduceIte];rfl) (fun h38=>?_) (fun h38=>?_);rotate_left
 ·have hj1:j=a.x.l.length:=by have h38:decide ((j:Int)<a.x.l.length)=false:=h38;simp at h38;omega
  refine AW.exit ?_;simp -implicitDefEqProofs only[go_sem,seval,↓reduceIte];refine hK5 _ ?_;rw [hj1,List.take_length] at hR2;refine AW.region (by kernel_rfl) ?_;simp -implicitDefEqProofs only[go_sem,seval,↓reduceIte];exact hL3 _ ⟨hk1,(),all_take_succ _ hg hR (by rw [hfs];exact hR2),Weak.st (by simp -implicitDefEqProofs only[go_sem,seval,↓reduceIte];exact congrArg _ (w64 (by omega) (by omega))) (by simp -implicitDefEqProofs only[go_sem,seval,↓reduceIte])⟩
 have hj1:j<a.x.l.length:=by have h38:decide ((j:Int)<a.x.l.length)=true:=h38;simp at h38;omega
 have hgj:=List.getElem?_eq_getElem hj1;generalize a.x.l[j]=n at hgj;refine AW.skip ?_;simp -implicitDefEqProofs only[go_sem,seval,↓reduceIte];refine hK8 _ ?_;refine AW.seq_k fun K9 hK9=>?_;refine AW.block ?_;refine AW.seq_k fun K hK=>AW.region (by kernel_rfl) ?_;simp -implicitDefEqProofs only[go_sem,seval,↓reduceIte,hgj,encXN_K];refine hK _ ?_;clear hK K
 by_cases hx:n.name.length > 100
 ·have q4:decide (((n.name.length:Nat):Int) > 100)=true:=by rw [decide_eq_true_iff];omega
  rw [all_false _ hgj (by simpa using hx)] at hfs;rw [all_false _ hg hfs] at hP;rw [q4];refine AW.condS (by simp -implicitDefEqProofs only[go_sem,seval,↓reduceIte];rfl) (fun h49=>?_) (fun h49=>?_);rotate_left
  ·cases h49
  refine AW.seq_k fun K hK=>AW.region (by kernel_rfl) ?_;simp -implicitDefEqProofs only[go_sem,seval,↓reduceIte];refine hK _ ?_;clear hK K;refine AW.ret ?_;simp -implicitDefEqProofs only[go_sem,seval,↓reduceIte];refine endK_some ?_;rw [hP]
 have q4:decide (((n.name.length:Nat):Int) > 100)=false:=by rw [decide_eq_false_iff_not];omega
 rw [q4];refine AW.condS (by simp -implicitDefEqProofs only[go_sem,seval,↓reduceIte];rfl) (fun h49=>?_) (fun h49=>?_)
 ·cases h49
 refine AW.skip ?_;simp -implicitDefEqProofs only[go_sem,seval,↓reduceIte];refine hK9 _ ?_;refine AW.region (by kernel_rfl) ?_;simp -implicitDefEqProofs only[go_sem,seval,↓reduceIte];exact hL7 _ ⟨hj1,(),all_take_succ _ hgj hR2 (by simpa using hx),Weak.st (by simp -implicitDefEqProofs only[go_sem,seval,↓reduceIte];exact congrArg _ (w64 (by omega) (by omega))) (by simp -implicitDefEqProofs only[go_sem,seval,↓reduceIte])⟩
theorem fewB_bnd {l:List AM} (h:fewB l=true):l.length≤20∧∀ a∈l,a.name.length≤100∧a.x.l.length≤40∧∀ n∈a.x.l,n.name.length≤100:=by
 simp only [fewB,Bool.and_eq_true,decide_eq_true_eq,List.all_eq_true] at h;refine ⟨h.1,fun a ha=>?_⟩;have:=h.2 a ha;simp only [fewS,Bool.and_eq_true,decide_eq_true_eq,List.all_eq_true] at this;exact ⟨this.1.1,this.1.2,this.2⟩
theorem fewN_bnd {l:List (List UInt8)} (h:fewN l=true):l.length≤20∧∀ n∈l,n.length≤100:=by
 simp only [fewN,Bool.and_eq_true,decide_eq_true_eq,List.all_eq_true] at h;exact ⟨h.2,h.1⟩
end Go.Hs
end

section
namespace Go.Hs
open Go.Proofs
set_option maxRecDepth 10000
def toAM (s:ASt):AM:=⟨s.kind,s.name,grownS s.x⟩
theorem toAM_v (s:ASt):(toAM s).v=s:=by
 show ASt.mk s.kind s.name (grownS s.x).l=s
 rw [grownS_l]
def amS (l:List ASt):Sl AM:=grownS (l.map toAM)
theorem amS_l (l:List ASt):(amS l).l=l.map toAM:=grownS_l _
theorem amS_v (l:List ASt):(amS l).l.map AM.v=l:=by
 rw [amS_l,List.map_map];exact (List.map_congr_left fun s _=>toAM_v s).trans (List.map_id _)
theorem encABs_am (c:Col) (l:List ASt):encSl c 3 (encAS c) (grownS l)=encSl c 3 (encAM c) (amS l):=by
 cases l with
 | nil=>rfl
 | cons s r =>
  show V.slice c false 3 ((s::r).map (encAS c))=V.slice c false 3 (((s::r).map toAM).map (encAM c))
  rw [List.map_map];rfl
theorem recol_abs (F:Col→Col) (c:Col) (l:List ASt):(encSl c 3 (encAS c) (grownS l)).recol F=encSl (F c) 3 (encAS (F c)) (grownS l):=recol_enc F c 3 (recol_as F c) _
structure BOk (b:List ASt):Prop where
 n:∀ s∈b,s.name.length<100000
 l:∀ s∈b,s.x.length<1000
 x:∀ s∈b,∀ n∈s.x,n.name.length<100000
 m:∀ s∈b,∀ n∈s.x,n.num≤9223372036854775807
 c:costA b≤65536
 k:b.length<100000
theorem BOk.amp {l:List ASt} (h:BOk l):∀ a∈(amS l).l,AmP a:=by
 intro a ha;rw [amS_l] at ha;obtain ⟨s,hs,rfl⟩:=List.mem_map.1 ha;exact ⟨h.n s hs,by show (grownS s.x).l.length<_;rw [grownS_l];exact h.l s hs,by show ∀ n∈(grownS s.x).l,_;rw [grownS_l];exact h.x s hs,by show ∀ n∈(grownS s.x).l,_;rw [grownS_l];exact h.m s hs⟩
theorem BOk.amb {l:List ASt} (h:BOk l):∀ a∈(amS l).l,AmB a:=fun a ha=>⟨(h.amp a ha).n,by have:=(h.amp a ha).l;omega,(h.amp a ha).x⟩
theorem BOk.amok {l:List ASt} (h:BOk l):AmOk (amS l).l:=⟨by rw [amS_l,List.length_map];have:=h.k;omega,fun a ha=>⟨(h.amb a ha).n,(h.amb a ha).l,(h.amb a ha).x⟩⟩
theorem BOk.len {l:List ASt} (h:BOk l):(amS l).l.length<1000000:=h.amok.len
theorem gr_names {n:Int} {ts:List (List UInt8)} {x:X} (h:Gr n ts x):∀ k:Int,∀ m∈x.row k,m.name.length≤64:=by
 induction h with
 | num _ _=>intro k m hm;simp only [X.row,List.mem_singleton] at hm;subst hm;exact Nat.zero_le _
 | name h1=>intro k m hm;simp only [X.row,List.mem_singleton] at hm;subst hm;exact (isP_first (by rw [h1];decide)).2.2
 | tr=>intro k m hm;simp only [X.row,List.mem_singleton] at hm;subst hm;exact Nat.zero_le _
 | fa=>intro k m hm;simp only [X.row,List.mem_singleton] at hm;subst hm;exact Nat.zero_le _
 | neg _ _ ih =>
  intro k m hm;simp only [X.row,List.mem_append,List.mem_singleton] at hm
  rcases hm with hm | rfl
  ·exact ih k m hm
  ·exact Nat.zero_le _
 | not _ _ ih =>
  intro k m hm;simp only [X.row,List.mem_append,List.mem_singleton] at hm
  rcases hm with hm | rfl
  ·exact ih k m hm
  ·exact Nat.zero_le _
 | par _ ih=>exact ih
 | bin _ _ _ _ _ i1 i2 =>
  intro k m hm;simp only [X.row,List.mem_append,List.mem_singleton] at hm
  rcases hm with (hm | hm) | rfl
  ·exact i1 k m hm
  ·exact i2 _ m hm
  ·exact Nat.zero_le _
 | ite _ _ _ i1 i2 i3 =>
  intro k m hm;simp only [X.row,List.mem_append,List.mem_singleton] at hm
  rcases hm with ((hm | hm) | hm) | rfl
  ·exact i1 k m hm
  ·exact i2 _ m hm
  ·exact i3 _ m hm
  ·exact Nat.zero_le _
theorem GB.ok {ws:List (List UInt8)} {b:List ASt} (h:GB ws b) (hw:ws.length≤900):BOk b:=by
 have hc:=h.cost;have hl:=h.len
 have key:(∀ s∈b,s.name.length≤64)∧(∀ s∈b,s.x.length≤ws.length)∧(∀ s∈b,∀ n∈s.x,n.name.length≤64):=by
  clear hc hl hw
  induction h with
  | nil=>exact ⟨fun s hs=>(by cases hs),fun s hs=>(by cases hs),fun s hs=>(by cases hs)⟩
  | asg n g d _ ih =>
   obtain ⟨i1,i2,i3⟩:=ih;have hs0:=g.size;simp only [List.length_cons,List.length_append];refine ⟨fun s hs=>?_,fun s hs=>?_,fun s hs=>?_⟩
   ·rcases List.mem_cons.1 hs with rfl | hs
    ·exact (isP_first (by rw [n];decide)).2.2
    ·exact i1 s hs
   ·rcases List.mem_cons.1 hs with rfl | hs
    ·show (X.row _ _).length≤_;rw [X.row_len];omega
    ·have:=i2 s hs;omega
   ·rcases List.mem_cons.1 hs with rfl | hs
    ·exact gr_names g 0
    ·exact i3 s hs
  | bare n _ ih =>
   obtain ⟨i1,i2,i3⟩:=ih;simp only [List.length_cons];refine ⟨fun s hs=>?_,fun s hs=>?_,fun s hs=>?_⟩
   ·rcases List.mem_cons.1 hs with rfl | hs
    ·exact (isP_first (by rw [n];decide)).2.2
    ·exact i1 s hs
   ·rcases List.mem_cons.1 hs with rfl | hs
    ·exact Nat.zero_le _
    ·have:=i2 s hs;omega
   ·rcases List.mem_cons.1 hs with rfl | hs
    ·intro n hn;cases hn
    ·exact i3 s hs
  | emit n g d _ ih =>
   obtain ⟨i1,i2,i3⟩:=ih;have hs0:=g.size;simp only [List.length_cons,List.length_append];refine ⟨fun s hs=>?_,fun s hs=>?_,fun s hs=>?_⟩
   ·rcases List.mem_cons.1 hs with rfl | hs
    ·exact (isP_first (by rw [n];decide)).2.2
    ·exact i1 s hs
   ·rcases List.mem_cons.1 hs with rfl | hs
    ·show (X.row _ _).length≤_;rw [X.row_len];omega
    ·have:=i2 s hs;omega
   ·rcases List.mem_cons.1 hs with rfl | hs
    ·exact gr_names g 0
    ·exact i3 s hs
 obtain ⟨k1,k2,k3⟩:=key;exact ⟨fun s hs=>by have:=k1 s hs;omega,fun s hs=>by have:=k2 s hs;omega,fun s hs n hn=>by have:=k3 s hs n hn;omega,h.nums,by omega,by omega⟩
theorem bok_nil:BOk []:=GB.nil.ok (Nat.zero_le _)
theorem bodyP_bok {s:List UInt8} (hs:s.length≤900):BOk (bodyP s).1:=by
 by_cases h:(bodyP s).2.2=0
 ·obtain ⟨l,b,e1,g,hl,e⟩:=bodyP_inv h
  have hc:=toks_count e1;rw [e];exact g.ok (by rw [List.length_map];omega)
 ·have:(bodyP s).1=[]:=by
   have key:∀ (l:List Tk) (n f i:Nat) (acc:List ASt),(bodyF l n f i acc).2.2≠0→(bodyF l n f i acc).1=[]:=by
    intro l n f
    induction f with
    | zero=>intro i acc h;exact absurd rfl h
    | succ f ih =>
     intro i acc h;rw [bodyF] at h ⊢
     by_cases q1:l.length≤i
     ·rw [if_pos q1] at h;exact absurd rfl h
     rw [if_neg q1] at h ⊢
     by_cases q2:acc.length=512
     ·rw [if_pos q2]
     rw [if_neg q2] at h ⊢
     by_cases q3:(stmtP l i).2.2≠0
     ·rw [if_pos q3]
     rw [if_neg q3] at h ⊢;exact ih _ _ h
   unfold bodyP at h ⊢
   by_cases h1:(toksP s).2.2≠0
   ·rw [if_pos h1]
   rw [if_neg h1] at h ⊢;exact key _ _ _ _ _ h
  rw [this];exact bok_nil
def wkX:X := .bin 10 (.leaf 2 0 [120]) (.leaf 1 1 [])
def wkB:List ASt:=[⟨1,[120],wkX.row 0⟩,⟨2,[103,111],(X.leaf 2 0 [120]).row 0⟩]
def wkY:List ASt:=[⟨1,[120],(X.leaf 2 0 [121]).row 0⟩]
def wkT:List UInt8:=[120,32,58,61,32,120,32,43,32,49,59,32,101,109,105,116,32,103,111,40,120,41,59]
def wkP:List UInt8:=[120,32,58,61,32,120,32,43,32,49,32,59,32,101,109,105,116,32,103,111,32,40,32,120,32,41,32,59]
theorem wk_print:printA wkB=(wkP,0):=by
 have h1:prP (wkX.row 0)=(joinW (wkX.W 0),0):=prP_row (by decide +kernel) (by decide +kernel);have h2:prP ((X.leaf 2 0 [120]).row 0)=(joinW ((X.leaf 2 0 [120]).W 0),0):=prP_row (by decide +kernel) (by decide +kernel)
 have e1:xsT (wkX.row 0)=[120,32,43,32,49,32]:=by
  unfold xsT;rw [if_neg (by decide +kernel),h1];decide +kernel
 have e2:xsT ((X.leaf 2 0 [120]).row 0)=[120,32]:=by
  unfold xsT;rw [if_neg (by decide +kernel),h2];decide +kernel
 unfold printA;rw [if_pos (by decide +kernel)]
 have e3:wkB.map sT=[[120,32,58,61,32,120,32,43,32,49,32,59],[101,109,105,116,32,103,111,32,40,32,120,32,41,32,59]]:=by
  simp [wkB,sT,e1,e2]
 rw [e3];rfl
theorem Im.abs (c:Col) (l:List ASt):(V.agg [encSl c 3 (encAS c) (grownS l)]).Im := .agg _ fun x hx=>by
 rw [List.mem_singleton.1 hx]
 exact Im.enc (fun a y hy=>by
  simp only [encAS_K,V.cells,List.mem_cons,List.not_mem_nil,or_false] at hy
  rcases hy with rfl | rfl | rfl
  ·exact .int _ _
  ·exact .str _
  ·exact Im.enc (fun n z hz=>by
    simp only [encXN_K,V.cells,List.mem_cons,List.not_mem_nil,or_false] at hz
    rcases hz with rfl | rfl | rfl | rfl | rfl | rfl<;>first | exact .int _ _ | exact .str _) _) _
theorem wWorks11_spec (G:Nat→V) (hE:GExp G):Spec Tryz.prog G 12 [] hNone (fun v _=>v = .bool true):=by
 have hG:=hE.ok;have hn0:encABs .new [] = .nils:=rfl;have hn1:∀ F,V.nils.recol F=V.nils:=fun _=>rfl;refine Spec.of_code' 0 114 [.tmp 0] Tryz.func12 rfl rfl rfl rfl fun X0=>?_;refine AW.seq_k fun K hK=>AW.region (by kernel_rfl) ?_;simp -implicitDefEqProofs only[go_sem,seval,↓reduceIte];refine hK _ ?_;clear hK K;refine AW.seq_k fun K hK=>AW.region (by kernel_rfl) ?_;simp -implicitDefEqProofs only[go_sem,seval,↓reduceIte];refine CallA.pure hG (by kernel_rfl) ?_;simp -implicitDefEqProofs only[go_sem,seval,↓reduceIte,List.map_nil];refine (bParse_spec G hE wkT (by decide)).mono ?_;rintro _ _ rfl;rw [show bodyP wkT=(wkB,0,0) from by decide +kernel];simp -implicitDefEqProofs only[go_sem,seval,↓reduceIte,encBP,encABs,recol_abs];intro g1;refine hK _ ?_;clear hK K
 have hB1:BOk wkB:=by
  have:=bodyP_bok (s:=wkT) (by decide);rwa [show bodyP wkT=(wkB,0,0) from by decide +kernel] at this
 refine AW.seq_k fun K hK=>AW.region (by kernel_rfl) ?_;simp -implicitDefEqProofs only[go_sem,seval,↓reduceIte];refine CallA.pure hG (by kernel_rfl) ?_;simp -implicitDefEqProofs only[go_sem,seval,↓reduceIte,recol_abs,encABs_am];refine (bPrint_spec G hE _ _ (amS wkB) hB1.len hB1.amp (by rw [amS_v];have:=hB1.c;omega)).mono ?_;rintro _ _ rfl;rw [amS_v,wk_print];simp -implicitDefEqProofs only[go_sem,seval,↓reduceIte,encPr];refine hK _ ?_;clear hK K;refine AW.seq_k fun K hK=>AW.region (by kernel_rfl) ?_;simp -implicitDefEqProofs only[go_sem,seval,↓reduceIte];refine CallA.pure hG (by kernel_rfl) ?_;simp -implicitDefEqProofs only[go_sem,seval,↓reduceIte,List.map_nil];refine (bParse_spec G hE [120,32,58,61,32,49] (by decide)).mono ?_;rintro _ _ rfl;rw [show bodyP [120,32,58,61,32,49]=(([],6,110):List ASt × Int × Int) from by decide +kernel];simp -implicitDefEqProofs only[go_sem,seval,↓reduceIte,encBP,hn0,hn1];intro g6;refine hK _ ?_;clear hK K;refine AW.seq_k fun K hK=>AW.region (by kernel_rfl) ?_;simp -implicitDefEqProofs only[go_sem,seval,↓reduceIte];refine CallA.pure hG (by kernel_rfl) ?_;simp -implicitDefEqProofs only[go_sem,seval,↓reduceIte,List.map_nil];refine (bParse_spec G hE [101,109,105,116,32,103,111,59] (by decide)).mono ?_;rintro _ _ rfl;rw [show bodyP [101,109,105,116,32,103,111,59]=(([],7,110):List ASt × Int × Int) from by decide +kernel];simp -implicitDefEqProofs only[go_sem,seval,↓reduceIte,encBP,hn0,hn1];intro g9;refine hK _ ?_;clear hK K;refine AW.seq_k fun K hK=>AW.region (by kernel_rfl) ?_
 simp -implicitDefEqProofs only[go_sem,seval,↓reduceIte];refine CallA.pure hG (by kernel_rfl) ?_;simp -implicitDefEqProofs only[go_sem,seval,↓reduceIte,List.map_nil];refine (bParse_spec G hE [120,32,61,32,49,59] (by decide)).mono ?_;rintro _ _ rfl;rw [show bodyP [120,32,61,32,49,59]=(([],2,110):List ASt × Int × Int) from by decide +kernel];simp -implicitDefEqProofs only[go_sem,seval,↓reduceIte,encBP,hn0,hn1];intro g12;refine hK _ ?_;clear hK K;refine AW.seq_k fun K hK=>AW.region (by kernel_rfl) ?_;simp -implicitDefEqProofs only[go_sem,seval,↓reduceIte];refine CallA.pure hG (by kernel_rfl) ?_;simp -implicitDefEqProofs only[go_sem,seval,↓reduceIte,List.map_nil];refine (bParse_spec G hE [120,32,58,61,32,59] (by decide)).mono ?_;rintro _ _ rfl;rw [show bodyP [120,32,58,61,32,59]=(([],5,80):List ASt × Int × Int) from by decide +kernel];simp -implicitDefEqProofs only[go_sem,seval,↓reduceIte,encBP,hn0,hn1];intro g15;refine hK _ ?_;clear hK K;refine AW.seq_k fun K hK=>AW.region (by kernel_rfl) ?_;simp -implicitDefEqProofs only[go_sem,seval,↓reduceIte];refine CallA.pure hG (by kernel_rfl) ?_;simp -implicitDefEqProofs only[go_sem,seval,↓reduceIte,List.map_nil];refine (bParse_spec G hE [120,32,58,61,32,121,59] (by decide)).mono ?_;rintro _ _ rfl;rw [show bodyP [120,32,58,61,32,121,59]=((wkY,0,0):List ASt × Int × Int) from by decide +kernel];simp -implicitDefEqProofs only[go_sem,seval,↓reduceIte,encBP,encABs,recol_abs];intro g18;refine hK _ ?_;clear hK K
 have hB2:BOk wkY:=by
  have:=bodyP_bok (s:=[120,32,58,61,32,121,59]) (by decide);rwa [show bodyP [120,32,58,61,32,121,59]=(wkY,0,0) from by decide +kernel] at this
 refine AW.seq_k fun K hK=>AW.region (by kernel_rfl) ?_;simp -implicitDefEqProofs only[go_sem,seval,↓reduceIte];intro g60
 refine CallA.bor hG [.agg [encSl .old 3 (encAM .old) (amS wkY)],encSl .old 1 V.str (.mk false [[120]]),encSl .old 1 V.str .nil] (by kernel_rfl)
  ⟨Rd.im (Im.abs .new wkY) (by simp only [recol_agg,List.map_cons,List.map_nil,recol_abs,encABs_am];rfl),Rd.msl (off:=0) (n:=1) (l:=[[120]]) (f:=V.str) (f':=V.str) (g:=g60) (fz:=0) (c := .new) (by simp -implicitDefEqProofs only[go_sem,seval,↓reduceIte];rfl) (fun _=>rfl) (fun x y hy=>by simp [V.cells] at hy;subst hy;exact .str _) (fun _=>rfl) (by decide),Rd.im .nils rfl,trivial⟩ ?_
 refine (bTypes_spec G hE .old .old .old .old (amS wkY) (.mk false [[120]]) .nil hB2.len hB2.amb (by decide) (by decide)).mono ?_;rintro _ _ rfl;rw [amS_v,show typesA wkY (Sl.mk false [[120]]).l (Sl.nil:Sl (List UInt8)).l=(0,90) from by decide +kernel];refine ⟨.tuple _ fun x hx=>?_,?_⟩
 ·simp only [List.mem_cons,List.not_mem_nil,or_false] at hx
  rcases hx with rfl | rfl<;>exact .int _ _
 simp -implicitDefEqProofs only[go_sem,seval,↓reduceIte,encTy];refine hK _ ?_;clear hK K;have e0:((0:Int)==0)=true:=rfl;have ta:∀ l:List Oper,l.toArray=(⟨l⟩:Array Oper):=fun l=>rfl;have hpq:(wkP==[120,32,58,61,32,120,32,43,32,49,32,59,32,101,109,105,116,32,103,111,32,40,32,120,32,41,32,59])=true:=rfl;refine AW.seq_k fun K hK=>AW.region (by kernel_rfl) ?_;simp -implicitDefEqProofs only[go_sem,seval,↓reduceIte,hpq];refine hK _ ?_;clear hK K;refine AW.ret ?_;simp -implicitDefEqProofs only[go_sem,seval,↓reduceIte];refine endK_some ?_;rfl
end Go.Hs
end

section
namespace Go.Hs
open Go.Proofs
set_option maxRecDepth 10000
theorem am_eqV (a b:AM):(a.v==b.v)=(a.kind==b.kind && (a.name==b.name && a.x.l==b.x.l)):=by
 rw [Bool.eq_iff_iff];simp only [AM.v,beq_iff_eq,ASt.mk.injEq,Bool.and_eq_true]
theorem aSame1_spec (G:Nat→V) (hG:GOk G) (c c1:Col) (a b:AM) (hb:a.x.l.length<1000000) :
  Spec Tryz.prog G 56 [encAM c a,encAM c1 b] hNone (fun v _=>v = .bool (a.v==b.v)):=by
 refine Spec.of_code' 0 24 [.tmp 4] Tryz.func56 rfl rfl rfl rfl fun X=>?_;have hP:=am_eqV a b;generalize (a.v==b.v)=res at hP ⊢;simp only [encAM_K];refine AW.seq_k fun K hK=>AW.region (by kernel_rfl) ?_;simp -implicitDefEqProofs only[go_sem,seval,↓reduceIte];intro g2 g3;refine hK _ ?_;clear hK K
 cases q1:(a.kind==b.kind) with
 | false =>
  refine AW.seq_k fun K hK=>AW.region (by kernel_rfl) ?_;simp -implicitDefEqProofs only[go_sem,seval,↓reduceIte,q1];refine hK _ ?_;clear hK K;refine AW.ret ?_;simp -implicitDefEqProofs only[go_sem,seval,↓reduceIte];refine endK_some ?_;rw [hP,q1];rfl
 | true =>
 cases q2:(a.name==b.name) with
 | false =>
  refine AW.seq_k fun K hK=>AW.region (by kernel_rfl) ?_;simp -implicitDefEqProofs only[go_sem,seval,↓reduceIte,q1,q2];refine hK _ ?_;clear hK K;refine AW.ret ?_;simp -implicitDefEqProofs only[go_sem,seval,↓reduceIte];refine endK_some ?_;rw [hP,q1,q2];rfl
 | true =>
 refine AW.seq_k fun K hK=>AW.region (by kernel_rfl) ?_;simp -implicitDefEqProofs only[go_sem,seval,↓reduceIte,q1,q2];refine CallA.pure hG (by kernel_rfl) ?_;simp -implicitDefEqProofs only[go_sem,seval,↓reduceIte,recol_xns];refine (xSame_spec G hG _ _ a.x b.x hb).mono ?_;rintro _ _ rfl;simp -implicitDefEqProofs only[go_sem,seval,↓reduceIte,q1,q2];refine hK _ ?_;clear hK K;refine AW.ret ?_;simp -implicitDefEqProofs only[go_sem,seval,↓reduceIte];refine endK_some ?_;rw [hP,q1,q2];rfl
theorem aEqual_spec (G:Nat→V) (hG:GOk G) (c c1 d d1:Col) (s t:Sl AM) (hs:s.l.length<1000000) (hx:∀ x∈s.l,x.x.l.length<1000000) :
  Spec Tryz.prog G 55 [encSl c 3 (encAM c1) s,encSl d 3 (encAM d1) t,.func (.func 56) [] []] hNone (fun v _=>v = .bool (s.l.map AM.v==t.l.map AM.v)):=by
 refine Spec.of_code' 0 32 [.tmp 6] Tryz.func55 rfl rfl rfl rfl fun X=>?_;refine AW.seq_k fun K hK=>AW.region (by kernel_rfl) ?_;simp -implicitDefEqProofs only[go_sem,seval,↓reduceIte];refine hK _ ?_;clear hK K;refine AW.seq_k fun K1 hK1=>?_;refine AW.seq_k fun K hK=>AW.region (by kernel_rfl) ?_;simp -implicitDefEqProofs only[go_sem,seval,↓reduceIte];refine hK _ ?_;clear hK K
 by_cases hl:s.l.length=t.l.length
 rotate_left
 ·have q1:(((s.l.length:Nat):Int) != ((t.l.length:Nat):Int))=true:=by simp;omega
  have hne:(s.l.map AM.v==t.l.map AM.v)=false:=by rw [beq_eq_false_iff_ne];exact fun h=>hl (by have:=congrArg List.length h;simpa using this)
  rw [q1];refine AW.condS (by simp -implicitDefEqProofs only[go_sem,seval,↓reduceIte];rfl) (fun h14=>?_) (fun h14=>?_)
  ·refine AW.seq_k fun K hK=>AW.region (by kernel_rfl) ?_
   simp -implicitDefEqProofs only[go_sem,seval,↓reduceIte];refine hK _ ?_;clear hK K;refine AW.ret ?_;simp -implicitDefEqProofs only[go_sem,seval,↓reduceIte];refine endK_some ?_;rw [hne]
  ·cases h14
 have q1:(((s.l.length:Nat):Int) != ((t.l.length:Nat):Int))=false:=by simp;omega
 rw [q1];refine AW.condS (by simp -implicitDefEqProofs only[go_sem,seval,↓reduceIte];rfl) (fun h14=>?_) (fun h14=>?_)
 ·cases h14
 refine AW.skip ?_;simp -implicitDefEqProofs only[go_sem,seval,↓reduceIte];refine hK1 _ ?_;refine AW.seq_k fun K2 hK2=>?_;refine AW.seq_k fun K hK=>AW.region (by kernel_rfl) ?_;simp -implicitDefEqProofs only[go_sem,seval,↓reduceIte];refine hK _ ?_;clear hK K;refine AW.block ?_
 refine AW.for s.l.length (fun k (_:Unit)=>st [(1,encSl d 3 (encAM d1) t),(2,.func (.func 56) [] []),(15,encSl c 3 (encAM c1) s),(16,.int .i64 s.l.length),(17,.int .i64 k)] []) (fun k _=>(s.l.take k).map AM.v=(t.l.take k).map AM.v) 0 () (Nat.zero_le _) rfl
  (Weak.st (by simp -implicitDefEqProofs only[go_sem,seval,↓reduceIte];try rfl) (by simp -implicitDefEqProofs only[go_sem,seval,↓reduceIte])) ?_
 intro k _ hk hR L3 hL3;refine AW.seq_k fun K hK=>AW.region (by kernel_rfl) ?_;simp -implicitDefEqProofs only[go_sem,seval,↓reduceIte];refine hK _ ?_;clear hK K;refine AW.seq_k fun K4 hK4=>?_;refine AW.condS (by simp -implicitDefEqProofs only[go_sem,seval,↓reduceIte];rfl) (fun h18=>?_) (fun h18=>?_);rotate_left
 ·have hk1:k=s.l.length:=by have h18:decide ((k:Int)<s.l.length)=false:=h18;simp at h18;omega
  refine AW.exit ?_;simp -implicitDefEqProofs only[go_sem,seval,↓reduceIte];refine hK2 _ ?_;rw [hk1,List.take_length,hl,List.take_length] at hR;refine AW.seq_k fun K hK=>AW.region (by kernel_rfl) ?_;simp -implicitDefEqProofs only[go_sem,seval,↓reduceIte];refine hK _ ?_;clear hK K;refine AW.ret ?_;simp -implicitDefEqProofs only[go_sem,seval,↓reduceIte];refine endK_some ?_;rw [hR];simp
 have hk1:k<s.l.length:=by have h18:decide ((k:Int)<s.l.length)=true:=h18;simp at h18;omega
 have hk2:k<t.l.length:=by omega
 have hg:=List.getElem?_eq_getElem hk1;have hg2:=List.getElem?_eq_getElem hk2;have hxx:=hx _ (List.getElem_mem hk1)
 have htk:s.l.take (k+1)=s.l.take k++[s.l[k]]:=by rw [List.take_succ_eq_append_getElem hk1]
 have htk2:t.l.take (k+1)=t.l.take k++[t.l[k]]:=by rw [List.take_succ_eq_append_getElem hk2]
 generalize s.l[k]=a at hg htk hxx;generalize t.l[k]=b at hg2 htk2;refine AW.skip ?_;simp -implicitDefEqProofs only[go_sem,seval,↓reduceIte];refine hK4 _ ?_;refine AW.seq_k fun K5 hK5=>?_;refine AW.block ?_;refine AW.seq_k fun K hK=>AW.region (by kernel_rfl) ?_;simp -implicitDefEqProofs only[go_sem,seval,↓reduceIte,hg,encAM_K];intro g8;refine hK _ ?_;clear hK K;refine AW.seq_k fun K hK=>AW.region (by kernel_rfl) ?_;simp -implicitDefEqProofs only[go_sem,seval,↓reduceIte,hg2,encAM_K];intro g9;refine hK _ ?_;clear hK K;refine AW.seq_k fun K hK=>AW.region (by kernel_rfl) ?_;simp -implicitDefEqProofs only[go_sem,seval,↓reduceIte];refine CallA.pure hG (by kernel_rfl) ?_;simp only [List.map_cons,List.map_nil,← encAM_K,recol_am];refine (aSame1_spec G hG _ _ a b hxx).mono ?_;rintro _ _ rfl;simp -implicitDefEqProofs only[go_sem,seval,↓reduceIte];refine hK _ ?_;clear hK K
 cases hab:(a.v==b.v) with
 | false =>
  have hab':a.v≠b.v:=by simpa using hab
  refine AW.condS (by simp -implicitDefEqProofs only[go_sem,seval,↓reduceIte];rfl) (fun h30=>?_) (fun h30=>?_);rotate_left
  ·cases h30
  refine AW.seq_k fun K hK=>AW.region (by kernel_rfl) ?_;simp -implicitDefEqProofs only[go_sem,seval,↓reduceIte];refine hK _ ?_;clear hK K;refine AW.ret ?_;simp -implicitDefEqProofs only[go_sem,seval,↓reduceIte];refine endK_some ?_;rw [ne_at hg hg2 hab']
 | true =>
  have hab':a.v=b.v:=by simpa using hab
  refine AW.condS (by simp -implicitDefEqProofs only[go_sem,seval,↓reduceIte];rfl) (fun h30=>?_) (fun h30=>?_)
  ·cases h30
  refine AW.skip ?_;simp -implicitDefEqProofs only[go_sem,seval,↓reduceIte];refine hK5 _ ?_;refine AW.region (by kernel_rfl) ?_;simp -implicitDefEqProofs only[go_sem,seval,↓reduceIte];exact hL3 _ ⟨hk1,(),by rw [htk,htk2,List.map_append,List.map_append,hR];show _++[a.v]=_++[b.v];rw [hab'],Weak.st (by simp -implicitDefEqProofs only[go_sem,seval,↓reduceIte];exact congrArg _ (w64 (by omega) (by omega))) (by simp -implicitDefEqProofs only[go_sem,seval,↓reduceIte])⟩
theorem bSame_spec (G:Nat→V) (hG:GOk G) (c c1 d d1:Col) (s t:Sl AM) (hs:s.l.length<1000000) (hx:∀ x∈s.l,x.x.l.length<1000000) :
  Spec Tryz.prog G 26 [.agg [encSl c 3 (encAM c1) s],.agg [encSl d 3 (encAM d1) t]] hNone (fun v _=>v = .bool (s.l.map AM.v==t.l.map AM.v)):=by
 refine Spec.of_code' 0 10 [.tmp 4] Tryz.func26 rfl rfl rfl rfl fun X=>?_;refine AW.seq_k fun K hK=>AW.region (by kernel_rfl) ?_;simp -implicitDefEqProofs only[go_sem,seval,↓reduceIte];intro g2 g3;refine hK _ ?_;clear hK K;refine AW.seq_k fun K hK=>AW.region (by kernel_rfl) ?_;simp -implicitDefEqProofs only[go_sem,seval,↓reduceIte];refine CallA.pure hG (by kernel_rfl) ?_;simp -implicitDefEqProofs only[go_sem,seval,↓reduceIte,recol_ams];refine (aEqual_spec G hG _ _ _ _ s t hs hx).mono ?_;rintro _ _ rfl;simp -implicitDefEqProofs only[go_sem,seval,↓reduceIte];refine hK _ ?_;clear hK K;refine AW.ret ?_;simp -implicitDefEqProofs only[go_sem,seval,↓reduceIte];refine endK_some ?_;rfl
end Go.Hs
end

section
namespace Go.Hs
open Go.Proofs
set_option maxRecDepth 10000
theorem costA_few {l:List AM} (h:fewB l=true):costA (l.map AM.v)≤65536:=by
 obtain ⟨h1,h2⟩:=fewB_bnd h
 have key:∀ l:List AM,(∀ a∈l,a.x.l.length≤40)→costA (l.map AM.v)≤2719 * l.length:=by
  intro l
  induction l with
  | nil=>intro _;exact Nat.le_refl _
  | cons a r ih =>
   intro h;have h0:=h a (by simp);have ih:=ih fun x hx=>h x (by simp [hx]);simp only [costA,List.map_cons,List.sum_cons,List.length_cons] at ih ⊢;have:(AM.v a).x.length=a.x.l.length:=rfl;omega
 have:=key l fun a ha=>(h2 a ha).2.1;omega
theorem amp_few {l:List AM} (h:fewB l=true) (hi:∀ a∈l,∀ n∈a.x.l,InK .i64 n.num):∀ a∈l,AmP a:=by
 obtain ⟨h1,h2⟩:=fewB_bnd h;intro a ha;obtain ⟨k1,k2,k3⟩:=h2 a ha;refine ⟨by omega,by omega,fun n hn=>by have:=k3 n hn;omega,fun n hn=>?_⟩;have:=(hi a ha n hn).2;rw [show IntKind.i64.max=9223372036854775807 from rfl] at this;exact this
theorem AmP.b {a:AM} (h:AmP a):AmB a:=⟨h.n,by have:=h.l;omega,h.x⟩
theorem amok_of {l:List AM} (hl:l.length<1000000) (h:∀ a∈l,AmP a):AmOk l:=⟨hl,fun a ha=>⟨(h a ha).b.n,(h a ha).b.l,(h a ha).b.x⟩⟩
theorem ref_bk (l:List ASt):(encABs .new l).recol Col.bk=encSl .new 3 (encAM .new) (amS l):=by
 unfold encABs;rw [recol_abs,encABs_am];rfl
set_option maxHeartbeats 4000000 in
theorem lActChecks (G:Nat→V) (hE:GExp G) (a b:Sl AM) (ia:∀ x∈a.l,∀ n∈x.x.l,InK .i64 n.num) (ib:∀ x∈b.l,∀ n∈x.x.l,InK .i64 n.num) (vars events:Sl (List UInt8)) (hv:vars.l.length≤9223372036854775807) (hev:events.l.length≤9223372036854775807) (c c1 d d1 c2 c3:Col) :
  Spec Tryz.prog G 5 [.agg [encSl c 3 (encAM c1) a],.agg [encSl d 3 (encAM d1) b],encSl c2 1 V.str vars,encSl c3 1 V.str events] hNone (fun v _=>v = .bool true):=by
 have hG:=hE.ok;refine Spec.of_code' 0 107 [.tmp 8] Tryz.func5 rfl rfl rfl rfl fun X=>?_;refine AW.seq_k fun K hK=>AW.region (by kernel_rfl) ?_;simp -implicitDefEqProofs only[go_sem,seval,↓reduceIte];intro g4 g5;refine hK _ ?_;clear hK K;refine AW.seq_k fun K1 hK1=>?_;refine AW.seq_k fun K hK=>AW.region (by kernel_rfl) ?_;simp -implicitDefEqProofs only[go_sem,seval,↓reduceIte];refine CallA.pure hG (by kernel_rfl) ?_;simp -implicitDefEqProofs only[go_sem,seval,↓reduceIte,recol_ams];refine (wFew11_spec G hG _ _ a).mono ?_;rintro _ _ rfl
 cases q1:fewB a.l with
 | false =>
  simp -implicitDefEqProofs only[go_sem,seval,↓reduceIte,q1];refine hK _ ?_;clear hK K;refine AW.condS (by simp -implicitDefEqProofs only[go_sem,seval,↓reduceIte];rfl) (fun h34=>?_) (fun h34=>?_);rotate_left
  ·cases h34
  refine AW.seq_k fun K hK=>AW.region (by kernel_rfl) ?_;simp -implicitDefEqProofs only[go_sem,seval,↓reduceIte];refine CallA.pure hG (by kernel_rfl) ?_;simp -implicitDefEqProofs only[go_sem,seval,↓reduceIte,List.map_nil];refine (wWorks11_spec G hE).mono ?_;rintro _ _ rfl;simp -implicitDefEqProofs only[go_sem,seval,↓reduceIte];refine hK _ ?_;clear hK K;refine AW.ret ?_;simp -implicitDefEqProofs only[go_sem,seval,↓reduceIte];refine endK_some ?_;rfl
 | true =>
 simp -implicitDefEqProofs only[go_sem,seval,↓reduceIte,q1];refine CallA.pure hG (by kernel_rfl) ?_;simp -implicitDefEqProofs only[go_sem,seval,↓reduceIte,recol_ams];refine (wFew11_spec G hG _ _ b).mono ?_;rintro _ _ rfl
 cases q2:fewB b.l with
 | false =>
  simp -implicitDefEqProofs only[go_sem,seval,↓reduceIte,q2];refine hK _ ?_;clear hK K;refine AW.condS (by simp -implicitDefEqProofs only[go_sem,seval,↓reduceIte];rfl) (fun h34=>?_) (fun h34=>?_);rotate_left
  ·cases h34
  refine AW.seq_k fun K hK=>AW.region (by kernel_rfl) ?_;simp -implicitDefEqProofs only[go_sem,seval,↓reduceIte];refine CallA.pure hG (by kernel_rfl) ?_;simp -implicitDefEqProofs only[go_sem,seval,↓reduceIte,List.map_nil];refine (wWorks11_spec G hE).mono ?_;rintro _ _ rfl;simp -implicitDefEqProofs only[go_sem,seval,↓reduceIte];refine hK _ ?_;clear hK K;refine AW.ret ?_;simp -implicitDefEqProofs only[go_sem,seval,↓reduceIte];refine endK_some ?_;rfl
 | true =>
 simp -implicitDefEqProofs only[go_sem,seval,↓reduceIte,q2];refine CallA.pure hG (by kernel_rfl) ?_;simp -implicitDefEqProofs only[go_sem,seval,↓reduceIte];refine (wNames11_spec G hG _ vars hv).mono ?_;rintro _ _ rfl
 cases q3:fewN vars.l with
 | false =>
  simp -implicitDefEqProofs only[go_sem,seval,↓reduceIte,q3];refine hK _ ?_;clear hK K;refine AW.condS (by simp -implicitDefEqProofs only[go_sem,seval,↓reduceIte];rfl) (fun h34=>?_) (fun h34=>?_);rotate_left
  ·cases h34
  refine AW.seq_k fun K hK=>AW.region (by kernel_rfl) ?_;simp -implicitDefEqProofs only[go_sem,seval,↓reduceIte];refine CallA.pure hG (by kernel_rfl) ?_;simp -implicitDefEqProofs only[go_sem,seval,↓reduceIte,List.map_nil];refine (wWorks11_spec G hE).mono ?_;rintro _ _ rfl;simp -implicitDefEqProofs only[go_sem,seval,↓reduceIte];refine hK _ ?_;clear hK K;refine AW.ret ?_;simp -implicitDefEqProofs only[go_sem,seval,↓reduceIte];refine endK_some ?_;rfl
 | true =>
 simp -implicitDefEqProofs only[go_sem,seval,↓reduceIte,q3];refine CallA.pure hG (by kernel_rfl) ?_;simp -implicitDefEqProofs only[go_sem,seval,↓reduceIte];refine (wNames11_spec G hG _ events hev).mono ?_;rintro _ _ rfl
 cases q4:fewN events.l with
 | false =>
  simp -implicitDefEqProofs only[go_sem,seval,↓reduceIte,q4];refine hK _ ?_;clear hK K;refine AW.condS (by simp -implicitDefEqProofs only[go_sem,seval,↓reduceIte];rfl) (fun h34=>?_) (fun h34=>?_);rotate_left
  ·cases h34
  refine AW.seq_k fun K hK=>AW.region (by kernel_rfl) ?_;simp -implicitDefEqProofs only[go_sem,seval,↓reduceIte];refine CallA.pure hG (by kernel_rfl) ?_;simp -implicitDefEqProofs only[go_sem,seval,↓reduceIte,List.map_nil];refine (wWorks11_spec G hE).mono ?_;rintro _ _ rfl;simp -implicitDefEqProofs only[go_sem,seval,↓reduceIte];refine hK _ ?_;clear hK K;refine AW.ret ?_;simp -implicitDefEqProofs only[go_sem,seval,↓reduceIte];refine endK_some ?_;rfl
 | true =>
 simp -implicitDefEqProofs only[go_sem,seval,↓reduceIte,q4];refine hK _ ?_;clear hK K;refine AW.condS (by simp -implicitDefEqProofs only[go_sem,seval,↓reduceIte];rfl) (fun h34=>?_) (fun h34=>?_)
 ·cases h34
 refine AW.skip ?_;simp -implicitDefEqProofs only[go_sem,seval,↓reduceIte];refine hK1 _ ?_;have hal:=(fewB_bnd q1).1;have hbl:=(fewB_bnd q2).1;have hvl:=(fewN_bnd q3).1;have hel:=(fewN_bnd q4).1;have hap:=amp_few q1 ia;have hbp:=amp_few q2 ib;have hac:=costA_few q1;have haB:∀ x∈a.l,AmB x:=fun x hx=>(hap x hx).b;have haO:=amok_of (by omega) hap;have hbx:∀ x∈b.l,x.x.l.length<1000000:=fun x hx=>(hbp x hx).b.l;have hax:∀ x∈a.l,x.x.l.length<1000000:=fun x hx=>(hap x hx).b.l;generalize hva:a.l.map AM.v=va at hac;have hvb:∃ vb,b.l.map AM.v=vb:=⟨_,rfl⟩;obtain ⟨vb,hvb⟩:=hvb;have hsa:(amS va).l.map AM.v=va:=amS_v va;have hsb:(amS vb).l.map AM.v=vb:=amS_v vb
 have hlenA:(amS va).l.length=a.l.length:=by rw [amS_l,← hva,List.length_map,List.length_map]
 have hlenB:(amS vb).l.length=b.l.length:=by rw [amS_l,← hvb,List.length_map,List.length_map]
 have hoA:∀ x∈(amS va).l,AmP x:=by
  intro x hx;rw [amS_l,← hva,List.map_map] at hx;obtain ⟨y,hy,rfl⟩:=List.mem_map.1 hx;have:=hap y hy;exact ⟨this.n,by show (grownS y.x.l).l.length<_;rw [grownS_l];exact this.l,by show ∀ n∈(grownS y.x.l).l,_;rw [grownS_l];exact this.x,by show ∀ n∈(grownS y.x.l).l,_;rw [grownS_l];exact this.m⟩
 have hoAx:∀ x∈(amS va).l,x.x.l.length<1000000:=fun x hx=>(hoA x hx).b.l;refine AW.seq_k fun K hK=>AW.region (by kernel_rfl) ?_;simp -implicitDefEqProofs only[go_sem,seval,↓reduceIte];refine CallA.pure hG (by kernel_rfl) ?_;simp -implicitDefEqProofs only[go_sem,seval,↓reduceIte,recol_ams];refine (bPrint_spec G hE _ _ a (by omega) hap (by rw [hva];omega)).mono ?_;rintro _ _ rfl;rw [hva];generalize hpr:printA va=pr;obtain ⟨pt,pe⟩:=pr;simp -implicitDefEqProofs only[go_sem,seval,↓reduceIte,encPr];refine hK _ ?_;clear hK K;refine AW.seq_k fun K hK=>AW.region (by kernel_rfl) ?_;simp -implicitDefEqProofs only[go_sem,seval,↓reduceIte];refine CallA.pure hG (by kernel_rfl) ?_;simp -implicitDefEqProofs only[go_sem,seval,↓reduceIte,recol_ams];refine (wRef11_spec G hG _ _ a (by omega) hax).mono ?_;rintro _ _ rfl;rw [hva,ref_bk];refine CallA.pure hG (by kernel_rfl) ?_;simp -implicitDefEqProofs only[go_sem,seval,↓reduceIte,recol_ams];refine (aPrint_spec G hG _ _ (amS va) (by omega) hoA).mono ?_;rintro _ _ rfl;rw [hsa,hpr];simp -implicitDefEqProofs only[go_sem,seval,↓reduceIte,encPr];refine hK _ ?_;clear hK K;refine AW.seq_k fun K hK=>AW.region (by kernel_rfl) ?_;simp -implicitDefEqProofs only[go_sem,seval,↓reduceIte];refine CallA.pure hG (by kernel_rfl) ?_;simp -implicitDefEqProofs only[go_sem,seval,↓reduceIte,recol_ams];refine (bTypes_spec G hE _ _ _ _ a vars events (by omega) haB (by omega) (by omega)).mono ?_;rintro _ _ rfl;rw [hva];generalize hty:typesA va vars.l events.l=ty;obtain ⟨tn,te⟩:=ty
 simp -implicitDefEqProofs only[go_sem,seval,↓reduceIte,encTy];refine hK _ ?_;clear hK K;refine AW.seq_k fun K hK=>AW.region (by kernel_rfl) ?_;simp -implicitDefEqProofs only[go_sem,seval,↓reduceIte];refine CallA.pure hG (by kernel_rfl) ?_;simp -implicitDefEqProofs only[go_sem,seval,↓reduceIte,recol_ams];refine (wRef11_spec G hG _ _ a (by omega) hax).mono ?_;rintro _ _ rfl;rw [hva,ref_bk];refine CallA.pure hG (by kernel_rfl) ?_;simp -implicitDefEqProofs only[go_sem,seval,↓reduceIte,recol_ams];refine (aTypes_spec G hG _ _ _ _ (amS va) vars events (amok_of (by omega) hoA) (by omega) (by omega)).mono ?_;rintro _ _ rfl;rw [hsa,hty];simp -implicitDefEqProofs only[go_sem,seval,↓reduceIte,encTy];refine hK _ ?_;clear hK K;generalize hck:checkA va=ck
 have e1:(pt==pt)=true:=by simp
 have e2:(pe==pe)=true:=by simp
 have e3:(tn==tn)=true:=by simp
 have e4:(te==te)=true:=by simp
 have e5:(ck==ck)=true:=by simp
 have e6:((va==vb)==(va==vb))=true:=by simp
 refine AW.weak (Weak.stF (fun _=>false) (l:=[(4,.ptr 4 g4 0),(5,.ptr 5 g5 0),(9,.str pt),(10,.int .i64 pe),(11,.str pt),(12,.int .i64 pe),(13,.int .i64 tn),(14,.int .i64 te),(15,.int .i64 tn),(16,.int .i64 te)])
  (m:=[(4,.cells .new g4 0 [encSl c 3 (encAM c1) a]),(5,.cells .new g5 0 [encSl d 3 (encAM d1) b])]) ?_ ?_) ?_
 ·simp -implicitDefEqProofs only[go_sem,seval,↓reduceIte]
  repeat' apply And.intro
  all_goals exact Fz.same _
 ·simp only [allFzO_cons,allFzO_nil,and_true]
  exact ⟨FzO.keep rfl (by simp -implicitDefEqProofs only[go_sem,seval,↓reduceIte];try rfl),FzO.keep rfl (by simp -implicitDefEqProofs only[go_sem,seval,↓reduceIte];try rfl)⟩
 refine AW.seq_k fun K hK=>AW.regionT ⟨fun i=>if i=20 then .int .i64 ck else if i=22 then encSl .new 3 (encAM .new) (amS va) else if i=23 then .int .i64 ck else if i=29 then .bool (va==vb) else if i=31 then encSl .new 3 (encAM .new) (amS va) else if i=33 then encSl .new 3 (encAM .new) (amS vb) else if i=34 then .bool (va==vb) else .bool true,fun _ => .pure⟩ (by kernel_rfl) hG (by kernel_rfl) (by kernel_rfl) ?_;simp -implicitDefEqProofs only[go_sem,seval,↓reduceIte,e1,e2,e3,e4,e5,e6]
 have eaa:(va==va)=true:=by simp
 have pRa:PureC Tryz.prog G 16 [.agg [encSl c 3 (encAM c1) a]] (encSl .new 3 (encAM .new) (amS va)):=⟨by kernel_rfl,by
  simp -implicitDefEqProofs only[go_sem,seval,↓reduceIte,recol_ams,List.map_cons,List.map_nil]
  exact (wRef11_spec G hG _ _ a (by omega) hax).mono fun v _ e=>by rw [e,hva,ref_bk]⟩
 have pRb:PureC Tryz.prog G 16 [.agg [encSl d 3 (encAM d1) b]] (encSl .new 3 (encAM .new) (amS vb)):=⟨by kernel_rfl,by
  simp -implicitDefEqProofs only[go_sem,seval,↓reduceIte,recol_ams,List.map_cons,List.map_nil]
  exact (wRef11_spec G hG _ _ b (by omega) hbx).mono fun v _ e=>by rw [e,hvb,ref_bk]⟩
 refine ⟨⟨by kernel_rfl,?_⟩,pRa,⟨by kernel_rfl,?_⟩,⟨by kernel_rfl,?_⟩,pRa,pRb,⟨by kernel_rfl,?_⟩,⟨by kernel_rfl,?_⟩,⟨by kernel_rfl,?_⟩,?_⟩
 ·simp -implicitDefEqProofs only[go_sem,seval,↓reduceIte,recol_ams,List.map_cons,List.map_nil]
  exact (bCheck_spec G hE _ _ a (by omega) haB).mono fun v _ e=>by rw [e,hva,hck];rfl
 ·simp -implicitDefEqProofs only[go_sem,seval,↓reduceIte,recol_ams,List.map_cons,List.map_nil]
  exact (aCheck_spec G hG _ _ (amS va) (amok_of (by omega) hoA)).mono fun v _ e=>by rw [e,hsa,hck];rfl
 ·simp -implicitDefEqProofs only[go_sem,seval,↓reduceIte,recol_ams,List.map_cons,List.map_nil]
  exact (bSame_spec G hG _ _ _ _ a b (by omega) hax).mono fun v _ e=>by rw [e,hva,hvb];rfl
 ·simp -implicitDefEqProofs only[go_sem,seval,↓reduceIte,recol_ams,List.map_cons,List.map_nil]
  exact (aSame_spec G hG _ _ _ _ (amS va) (amS vb) (by omega) hoAx).mono fun v _ e=>by rw [e,hsa,hsb];rfl
 ·simp -implicitDefEqProofs only[go_sem,seval,↓reduceIte,recol_ams,List.map_cons,List.map_nil]
  exact (bSame_spec G hG _ _ _ _ a a (by omega) hax).mono fun v _ e=>by rw [e,hva,eaa];rfl
 ·simp -implicitDefEqProofs only[go_sem,seval,↓reduceIte,List.map_nil]
  exact (wWorks11_spec G hE).mono fun v _ e=>by rw [e];rfl
 refine hK _ ?_;clear hK K;refine AW.ret ?_;simp -implicitDefEqProofs only[go_sem,seval,↓reduceIte];refine endK_some ?_;rfl
end Go.Hs
end

section
namespace Go.Proofs.YtohdjmgdaaipaaaGreatDoor
open Go.RowKit Go.Hs
set_option maxRecDepth 100000
def laidAll:List (String × DataW Unit):=[("math/bits.deBruijn32tab",Rows.laid_math_bits_deBruijn32tab),("math/bits.deBruijn64tab",Rows.laid_math_bits_deBruijn64tab),("internal/strconv.uint64pow10",Rows.laid_internal_strconv_uint64pow10),("unicode/utf8.acceptRanges",Rows.laid_unicode_utf8_acceptRanges),("strconv.ErrRange",Rows.laid_strconv_ErrRange),("strconv.ErrSyntax",Rows.laid_strconv_ErrSyntax),("hopscotch/lex.signs",Rows.laid_hopscotch_lex_signs),("unicode/utf8.first",Rows.laid_unicode_utf8_first)]
noncomputable def low:Nat:=(World.holding Tryz.prog default ⟨#[],#[],[]⟩).heap.size
def b32:List Int:=[0,1,28,2,29,14,24,3,30,22,20,15,25,17,4,8,31,27,13,23,21,19,16,7,26,12,18,6,11,5,10,9]
def b64:List Int:=0::1::56::2::57::49::28::3::61::58::42::50::38::29::17::4::62::47::59::36::45::43::51::22::53::39::33::30::24::18::12::5::63::55::48::27::60::41::37::16::46::35::44::21::52::32::23::11::54::26::40::15::34::20::31::10::25::14::19::9::13::8::7::6::[]
def acR:List Int:=[128,191,160,191,128,159,144,191,128,143]++List.replicate 22 0
def errR:ByteArray:={ data := #[118,97,108,117,101,32,111,117,116,32,111,102,32,114,97,110,103,101] }
def errS:ByteArray:={ data := #[105,110,118,97,108,105,100,32,115,121,110,116,97,120] }
def withCells (cs:Array Value):Obj→Obj
 | .cells _ t frozen => .cells cs t frozen
 | o=>o
noncomputable def laidWorld (os:Os):World :=
 let w0:=World.holding Tryz.prog os ⟨#[.cells #[.string errR] 375,.cells #[.string errS] 375],#[],[]⟩
 { w0 with heap:=(((((((w0.heap.modify 3 (withCells #[.iface 373 (.pointer (some ⟨low,0,none⟩))])).modify 8 (withCells #[.iface 373 (.pointer (some ⟨low+1,0,none⟩))])).modify 2
   (withCells (Lib.pow10Tab.map (Value.int .u64)).toArray)).modify 4 (withCells (b32.map (Value.int .u8)).toArray)).modify 5 (withCells (b64.map (Value.int .u8)).toArray)).modify 7 (withCells (acR.map (Value.int .u8)).toArray)).modify
   0 (withCells (signsL.map fun s=>Value.string ⟨s.toArray⟩).toArray)).modify 6 (withCells (Pinned.utf8FirstZ.map fun (n:Nat)=>Value.int .u8 (n:Int)).toArray) }
theorem laidWorld_met (os:Os) (args:Array Value):laidMet Tryz.prog laidAll ((laidWorld os).forCall (fun _ _=>0) ⟨#[],args,[]⟩).memory :=
 laidMet_of_run' 8 (by kernel_rfl) (by kernel_rfl)
end Go.Proofs.YtohdjmgdaaipaaaGreatDoor
end

section
namespace Go.Proofs.YtohdjmgdaaipaaaGreatDoor
open Go.RowKit Go.Hs
set_option maxRecDepth 100000
theorem laidMet_tail {P:Program} {W:World} {x:String × DataW Unit} {r:List (String × DataW Unit)} (h:laidMet P (x::r) W):laidMet P r W:=by
 obtain ⟨n,d⟩:=x;obtain ⟨ps,⟨g0,t0,cs0,f0,p0,q0,hg0,ht0,hv0,hd0,hq,e0⟩,hnd,hrows⟩:=h;subst e0;exact ⟨q0,hq,(List.nodup_append.1 hnd).2.1,fun b off hm=>hrows b off (List.mem_append.2 (.inr hm))⟩
noncomputable def gE (m:Int):Nat→V:=fun g=>if g=3 then .view .old (.iface 373 (.view .old (.agg []))) else if g=2 then .view .old (.agg (Lib.pow10Tab.map (V.int .u64)))
 else if g=0 then .view .old (.agg (signsL.map V.str)) else if g=1 then .view .old (.int .i64 m) else .top
theorem recolL_ints (f:Col→Col):∀ l:List Int,V.recolL f (l.map (V.int .u64))=l.map (V.int .u64)
 | []=>rfl
 | x::r=>by simp only [List.map_cons,V.recolL];rw [recolL_ints f r];rfl
theorem recolL_strs (f:Col→Col):∀ l:List (List UInt8),V.recolL f (l.map V.str)=l.map V.str
 | []=>rfl
 | x::r=>by simp only [List.map_cons,V.recolL];rw [recolL_strs f r];rfl
theorem gE_ok (m:Int):GExp (gE m) where
 ok:=fun g=>by
  unfold gE
  split
  ·exact ⟨rfl,.view _ _ fun x hx=>by simp [V.cells] at hx;subst hx;exact .iface _ _ (.view _ _ fun x hx=>by simp [V.cells] at hx)⟩
  ·split
   ·refine ⟨by simp only [V.recol,Col.ent,recolL_ints],.view _ _ fun x hx=>?_⟩
    obtain ⟨n,_,rfl⟩:=List.mem_map.1 hx;exact .int _ _
   ·split
    ·refine ⟨by simp only [V.recol,Col.ent,recolL_strs],.view _ _ fun x hx=>?_⟩
     obtain ⟨n,_,rfl⟩:=List.mem_map.1 hx;exact .str _
    ·split
     ·exact ⟨rfl,.view _ _ fun x hx=>by simp [V.cells] at hx;subst hx;exact .int _ _⟩
     ·exact ⟨rfl,.top⟩
 er:=⟨_,_,_,rfl⟩
 tab:=⟨_,rfl⟩
 sg:=⟨_,rfl⟩
 ml:=⟨_,m,rfl⟩
theorem gER:Tryz.prog.globalNamed "strconv.ErrRange" = some 3:=by kernel_rfl
theorem gERType:(Tryz.prog.globals[3]?).map (·.type)=some 177:=by kernel_rfl
theorem cells111:Tryz.prog.cellsOf 375=1:=by kernel_rfl
theorem cells9:Tryz.prog.cellsOf 9=1:=by kernel_rfl
theorem star : "*" ++ "errors.errorString" = "*errors.errorString" := by decide
theorem row109 (u:TypeId) (h:Tryz.prog.typeName? 3 u=some "*errors.errorString"):u=373 :=
 typeName_ptr_named (nm := "errors.errorString") (by rw [star];kernel_rfl) (by kernel_rfl) (by decide) u (by rw [star];exact h)
theorem gTab:Tryz.prog.globalNamed "internal/strconv.uint64pow10" = some 2:=by kernel_rfl
theorem gTabType:∃ t n,(Tryz.prog.globals[2]?).map (·.type)=some t∧Tryz.prog.underlying t=some (.array n 303)∧Tryz.prog.cellsOf t=n∧n=20:=by
 refine ⟨(((Tryz.prog.globals[2]?).map (·.type)).getD 0),20,by kernel_rfl,by kernel_rfl,by kernel_rfl,rfl⟩
theorem laid_tab {W:World} (h:laidMet Tryz.prog laidAll W):Lib.TabIs Tryz.prog W "internal/strconv.uint64pow10" .u64 Lib.pow10Tab:=by
 obtain ⟨t,n,h1,h2,h3,rfl⟩:=gTabType
 have e:(Rows.laid_internal_strconv_uint64pow10:DataW Unit)=Lib.tabData .u64 Lib.pow10Tab:=by rfl
 have h4:=laidMet_tail (laidMet_tail h);rw [e] at h4;exact Lib.tabIs_of_head gTab h1 h2 Tryz.underlying303 (by kernel_rfl) h3 h4
theorem laid_err {W:World} (h:laidMet Tryz.prog laidAll W):∃ b off,W.cell? ⟨3,0,none⟩=some (.iface 373 (.pointer (some ⟨b,off,none⟩))):=by
 obtain ⟨a,s,h1,h2,_,_⟩:=laid_sentinel (laidMet_tail (laidMet_tail (laidMet_tail (laidMet_tail h)))) gER gERType Tryz.underlying177 row109 Tryz.underlying373 Tryz.underlying375 rfl rfl Tryz.underlying9 cells111 cells9;have h0:=World.var?_cell gER h1 0;have hs:=World.cell?_spot h2;obtain ⟨b,off,sp⟩:=a;have hs:sp=none:=hs;subst hs;exact ⟨b,off,by simpa using h0⟩
def strData {H:Type} (zs:List (List UInt8)):DataW H := .agg (zs.map fun z => .lit (.string z))
theorem cells_of_strs {H:Type} {enc:TypeId × Value→H} {P:Program} {w:World} {base:Nat} {sp:Nat→Bool} {held:Bool} {fuel:Nat} {t e:TypeId} {n:Nat} {cs:List Value} {zs:List (List UInt8)} {p:List MemPlace}
  (ht:P.underlying t=some (.array n e)) (he:P.underlying e=some .string) (hce:P.cellsOf e=1) (hct:P.cellsOf t=n)
  (h:DataW.trod enc P w base sp held fuel t cs=some (strData zs,p)):cs.length=zs.length∧∀ i (hi:i<zs.length),∃ s:ByteArray,cs[i]? = some (.string s)∧s.data.toList=zs[i]:=by
 cases fuel with
 | zero=>simp [DataW.trod] at h
 | succ fuel =>
  simp only [DataW.trod,ht,hce,hct,Nat.mul_one] at h
  split at h
  ·rename_i hl
   obtain ⟨xs,hm,hx⟩:=Option.map_eq_some_iff.1 h
   have hxs:xs.map (·.1)=zs.map fun z=>(DataW.lit (.string z):DataW H):=by
    have:=congrArg Prod.fst hx;simpa [strData] using this
   have hxl:xs.length=n:=by simpa using Lib.mapM_length hm
   have hzl:zs.length=n:=by
    have:=congrArg List.length hxs;simp at this;omega
   refine ⟨by omega,fun i hi=>?_⟩
   have hin:i<n:=by omega
   obtain ⟨b,hb,hf⟩:=Lib.mapM_at hm i i (by simp [hin]);obtain ⟨z,hc,rfl,_⟩:=DataW.trod_string he hf
   have h1:cs[i]? = some (.string z):=by
    have:=congrArg (·[0]?) hc;simpa [List.getElem?_take,List.getElem?_drop] using this
   have h2:(xs.map (·.1))[i]? = some (DataW.lit (.string z.data.toList):DataW H):=by simp [hb]
   rw [hxs,List.getElem?_map,List.getElem?_eq_getElem hi] at h2;refine ⟨z,h1,?_⟩;have h3:(DataW.lit (.string zs[i]):DataW H) = .lit (.string z.data.toList):=Option.some.inj h2
   injection h3 with h3
   injection h3 with h3
   exact h3.symm
  ·cases h
theorem gSg:Tryz.prog.globalNamed "hopscotch/lex.signs" = some 0:=by kernel_rfl
theorem gSgType:(Tryz.prog.globals[0]?).map (·.type)=some 206:=by kernel_rfl
theorem laid_signs {W:World} (h:laidMet Tryz.prog laidAll W):∃ cs:Array Value,W.var? Tryz.prog "hopscotch/lex.signs" = some cs∧cs.size=14∧∀ i (hi:i<signsL.length),∃ s:ByteArray,cs[i]? = some (.string s)∧s.data.toList=signsL[i]:=by
 have e:(Rows.laid_hopscotch_lex_signs:DataW Unit)=strData signsL:=by rfl
 have h4:=laidMet_tail (laidMet_tail (laidMet_tail (laidMet_tail (laidMet_tail (laidMet_tail h)))));rw [e] at h4;obtain ⟨ps,⟨g',t',cs,fuel,p,q,hg',ht',hvar,hd,_,_⟩,_⟩:=h4;obtain rfl:=Option.some.inj (gSg.symm.trans hg');obtain rfl:=Option.some.inj (gSgType.symm.trans ht');obtain ⟨h1,h2⟩:=cells_of_strs Tryz.underlying206 Tryz.underlying9 cells9 (by kernel_rfl) hd;refine ⟨_,hvar,(by simpa using h1:cs.size=signsL.length).trans rfl,fun i hi=>?_⟩;obtain ⟨s,h3,h4⟩:=h2 i hi;exact ⟨s,by simpa using h3,h4⟩
theorem maxlen_of {W:World} (h:W.ShapedOpen Tryz.prog):∃ m,W.cell? ⟨1,0,none⟩=some (.int .i64 m):=by
 obtain ⟨cs,hh,hs,hr⟩:=h.1 1 #[.int .i64 0] 3 (of_decide_eq_true (by kernel_rfl)) (by kernel_rfl);obtain ⟨ts,hts,_,hall⟩:=hr (by kernel_rfl);rw [show Tryz.prog.cellTypes Tryz.prog.depth 3=some [3] by kernel_rfl] at hts;cases hts
 have h1:0<cs.size:=by rw [hs];decide
 obtain ⟨u,hu',hok⟩:=hall 0 cs[0] (by simp [h1])
 have:u=3:=by simpa using hu'.symm
 subst this
 have hcell:W.cell? ⟨1,0,none⟩=some cs[0]:=by simp [World.cell?,hh,h1]
 rw [hcell];unfold Cell.ok at hok;rw [Tryz.underlying3] at hok
 cases hv:cs[0]<;>rw [hv] at hok<;>first | (obtain ⟨rfl,_⟩:=hok;exact ⟨_,rfl⟩) | simp at hok
theorem laid_G {W:World} (h:laidMet Tryz.prog laidAll W) (hS:W.ShapedOpen Tryz.prog):∃ m,∀ g,RelG (Cx.ofW W) g (gE m g):=by
 obtain ⟨m,hml⟩:=maxlen_of hS;refine ⟨m,fun g=>?_⟩;unfold gE
 split
 ·rename_i hg
  subst hg;obtain ⟨b,off,h1⟩:=laid_err h;refine ⟨?_,trivial⟩;refine .view .old _ 3 0 (fun _ => .iface 373 (.pointer (some ⟨b,off,none⟩))) (fun i hi=>?_) (fun i hi=>?_)
  ·have:i=0:=by simpa [V.cells] using hi
   subst this;refine ⟨by show (W.cell? _).isSome=true;rw [h1];rfl,World.block_lt_of_cell? _ _ h1,h1,rfl⟩
  ·have:i=0:=by simpa [V.cells] using hi
   subst this;exact .iface _ _ _ (.view .old _ b off (fun _ => .nilIface) (fun i hi=>by simp [V.cells] at hi) (fun i hi=>by simp [V.cells] at hi))
 ·split
  ·rename_i hg
   subst hg;have ht:=laid_tab h;have hc:∀ i (hi:i<Lib.pow10Tab.length),W.cell? ⟨2,i,none⟩=some (.int .u64 (Lib.pow10Tab.getD i 0)):=fun i hi=>ht.cell gTab i hi;have hlen:Lib.pow10Tab.length=20:=Lib.pow10Tab_length;have hlt:2<W.heap.size:=World.block_lt_of_cell? _ _ (hc 0 (by omega))
   have hv:W.var? Tryz.prog "internal/strconv.uint64pow10" = some (Lib.pow10Tab.map fun z=>Value.int .u64 z).toArray:=ht
   refine ⟨?_,?_⟩
   ·refine .view .old _ 2 0 (fun i => .int .u64 (Lib.pow10Tab.getD i 0)) (fun i hi=>?_) (fun i hi=>?_)
    ·have hi:i<Lib.pow10Tab.length:=by simpa [V.cells] using hi
     rw [Nat.zero_add];exact ⟨by show (W.cell? _).isSome=true;rw [hc i hi];rfl,hlt,hc i hi,rfl⟩
    ·have hi':i<Lib.pow10Tab.length:=by simpa [V.cells] using hi
     have key:∀ v,v=V.int .u64 (Lib.pow10Tab.getD i 0)→Rel (Cx.ofW W) (Value.int .u64 (Lib.pow10Tab.getD i 0)) v:=fun v e=>by rw [e];exact .int _ _
     exact key _ (by simp [V.cells,List.getD,hi'])
   ·refine ⟨hlt,?_⟩
    unfold World.var? at hv;rw [gTab] at hv;have hv:(match W.heap[2]? with | some (Obj.cells cs _ _)=>some cs | _=>none)=some (Lib.pow10Tab.map fun z=>Value.int .u64 z).toArray:=hv
    split at hv
    ·rename_i cs t fr hh
     cases hv;exact ⟨_,t,fr,hh,by simp⟩
    ·cases hv
  ·split
   ·rename_i hg
    subst hg;obtain ⟨cs,hv,hsz,hcs⟩:=laid_signs h;have h0:=fun i=>World.var?_cell gSg hv i
    have hc:∀ i (hi:i<signsL.length),∃ s:ByteArray,W.cell? ⟨0,i,none⟩=some (.string s)∧s.data.toList=signsL[i]:=fun i hi=>by
     obtain ⟨s,h1,h2⟩:=hcs i hi;exact ⟨s,by rw [h0 i];exact h1,h2⟩
    have hlt:0<W.heap.size:=by
     obtain ⟨s,h1,_⟩:=hc 0 (by decide);exact World.block_lt_of_cell? _ _ h1
    refine ⟨?_,?_⟩
    ·refine .view .old _ 0 0 (fun i=>(cs[i]?).getD undef) (fun i hi=>?_) (fun i hi=>?_)
     ·have hi:i<signsL.length:=by simpa [V.cells] using hi
      obtain ⟨s,h1,_⟩:=hcs i hi;rw [Nat.zero_add,h1]
      have h2:W.cell? ⟨0,i,none⟩=some (.string s):=by rw [h0 i];exact h1
      exact ⟨by show (W.cell? _).isSome=true;rw [h2];rfl,hlt,h2,rfl⟩
     ·have hi':i<signsL.length:=by simpa [V.cells] using hi
      obtain ⟨s,h1,h2⟩:=hcs i hi';rw [h1]
      have key:∀ v,v=V.str signsL[i]→Rel (Cx.ofW W) (Value.string s) v:=fun v e=>by rw [e];exact .str _ _ h2
      exact key _ (by simp [V.cells])
    ·refine ⟨hlt,?_⟩
     unfold World.var? at hv;rw [gSg] at hv;have hv:(match W.heap[0]? with | some (Obj.cells cs _ _)=>some cs | _=>none)=some cs:=hv
     split at hv
     ·rename_i cs' t fr hh
      cases hv;exact ⟨_,t,fr,hh,by rw [hsz];rfl⟩
     ·cases hv
   ·split
    ·rename_i hg
     subst hg;refine ⟨?_,trivial⟩;refine .view .old _ 1 0 (fun _ => .int .i64 m) (fun i hi=>?_) (fun i hi=>?_)
     ·have:i=0:=by simpa [V.cells] using hi
      subst this;refine ⟨by show (W.cell? _).isSome=true;rw [hml];rfl,World.block_lt_of_cell? _ _ hml,hml,rfl⟩
     ·have:i=0:=by simpa [V.cells] using hi
      subst this;exact .int _ _
    ·exact ⟨.top _,trivial⟩
end Go.Proofs.YtohdjmgdaaipaaaGreatDoor
end

section
namespace Go.Proofs.YtohdjmgdaaipaaaGreatDoor
open Go.RowKit Go.Hs Go.ChangeShapes Go.WideShapes Go.ChangeAt
open Go.ChangeMaps (open_string shut_string)
set_option maxRecDepth 100000
theorem reads_str (W:World):Reads Tryz.prog W 9 1 (fun s:List UInt8=>[V.str s]):=by
 refine ⟨by kernel_rfl,fun _=>rfl,fun enc held fuel cs x h=>?_⟩;obtain ⟨s,rfl,_,_⟩:=DataW.trod_string Tryz.underlying9 h;exact ⟨s.data.toList,RelC.cons rfl (.str _ _ rfl) RelC.nil⟩
theorem reads_strs (W:World):Reads Tryz.prog W 36 1 (fun s:Sl (List UInt8)=>[encSl .any 1 V.str s]) :=
 Reads.slice Tryz.underlying36 (by kernel_rfl) (by decide) (reads_str W)
theorem inK_of_wf {k:IntKind} {n:Int} (h:(Lit.int k n).wf=true):InK k n:=by
 simpa [Lit.wf,InK] using h
variable {W:World} {H:Type} {enc:TypeId × Value→H} {b0:Nat} {v:Value} {d:DataW H} {ps:List MemPlace}
theorem argL (hv:Value.okWide Tryz.prog W .any b0 36 v) (h:DataW.Trod enc Tryz.prog W 0 (fun _=>true) true 36 v d ps):∃ x:Sl (List UInt8),Rel (Cx.ofW W) v (encSl .old 1 V.str x):=by
 obtain ⟨fuel,h⟩:=h;obtain ⟨x,hx⟩:=(reads_strs W).2.2 enc true fuel _ _ h
 have key:Rel (Cx.ofW W) v (encSl .any 1 V.str x):=by
  unfold Value.okWide at hv;rw [Tryz.underlying36] at hv
  have hc:v.cells = #[v]:=by
   unfold Cell.okWide Cell.ok at hv;rw [Tryz.underlying36] at hv
   cases v<;>first | rfl | (simp at hv)
  rw [hc] at hx;exact hx.rel 0 (by simp) (by simp)
 have h2:=key.ofW_old;refine ⟨x,?_⟩;simpa only [go_sem,List.map_cons,List.map_nil] using h2
theorem own:ownKnob Tryz.prog.godebug=none:=by kernel_rfl
theorem laidOut:laidOutB Tryz.prog=true:=by kernel_rfl
theorem lift_shaped {a:Assume} {C:Checked} {os:Os} {f:FuncId} {fn:Func} {H:Type} {enc:TypeId × Value→H} {s:ChangeSpec} {conds:List PathCond} {apart fresh handsOn again:Bool} {X:World→Array Value→Prop}
  (hX:∀ (w w':World) (args:Array Value),w.heap=w'.heap→X w args→X w' args)
  (ownk:ownKnob C.prog.godebug=none) (started:os.Started) (noInit:C.prog.inits.idxOf? f=none) (hfn:C.prog.funcs[f]? = some fn)
  (witness:∃ (w:World) (tape:Tape) (i:Input),w.os=os∧(w.forCall tape i).Shaped C.prog∧i.vars=[]∧Input.okWide C.prog (w.forCall tape i) .any w.heap.size f i ∧
   ((s.pre enc C.prog fn conds apart (w.forCall tape i).memory i.args∧X (w.forCall tape i).memory i.args)∧sizedMet enc C.prog fn (OpenSpec.ofChange s) apart (w.forCall tape i).memory i.args)∧a.holds C.prog (lone (Frame.enter C.prog f i.args .normal) [] (w.forCall tape i)))
  (contract:∀ (W:World) (base:Nat) (args:Array Value) (ds gs:List (DataW H)) (before:List MemPlace),W.ShapedOpen C.prog →
   (∀ (j:Nat) t v,fn.params[j]? = some t→args[j]? = some v→Value.okWide C.prog W .any base t v) →
   DataW.Whole enc C.prog fn.params.toList s.vars apart W args.toList ds gs before→X W args →
   Calls C.prog f args W fun e W'=>∃ v,e = .returned v∧s.post enc C.prog fn apart fresh handsOn again W args v W') :
  ReturnsInHanded a C os f .any (fun w args=>(s.pre enc C.prog fn conds apart w args∧X w args)∧sizedMet enc C.prog fn (OpenSpec.ofChange s) apart w args) (s.post enc C.prog fn apart fresh handsOn again):=by
 refine returnsInHanded_of_calls ownk started noInit witness ?_;intro w tape i _ hsh _ hok hpre _;obtain ⟨_,_,_,fn',hfn',_,_,_,_,hval⟩:=hok;have e:fn'=fn:=Option.some.inj (hfn'.symm.trans hfn);subst e;obtain ⟨⟨⟨ds,gs,before,hw,_⟩,hx⟩,_⟩:=hpre;have hw':=DataW.Whole.of_heap (w':=w.forCall tape i) (by rfl) hw;refine (contract (w.forCall tape i) w.heap.size i.args ds gs before hsh hval hw' (hX _ _ _ (by rfl) hx)).mono fun e W' ⟨v,he,hp⟩=>?_;subst he;exact ChangeSpec.post_blind hp
end Go.Proofs.YtohdjmgdaaipaaaGreatDoor
end

section
namespace Go.Proofs.YtohdjmgdaaipaaaGreatDoor
open Go.RowKit Go.Hs Go.ChangeShapes Go.WideShapes Go.ChangeAt
set_option maxRecDepth 100000
abbrev XNb:={ n:XN // InK .i64 n.num }
theorem reads_xnb (W:World):Reads Tryz.prog W 112 6 (fun n:XNb=>(encXN n.1).cells):=by
 refine ⟨by kernel_rfl,fun _=>rfl,fun enc held fuel cs x h=>?_⟩;obtain ⟨xs,n,_,_,hl,hlen,hf⟩:=DataW.trod_struct Tryz.underlying112 h
 have e43:Tryz.prog.cellsOf 112=6:=by kernel_rfl
 rw [e43] at hl;have hx:xs.length=6:=hlen
 have rI:Reads Tryz.prog W 2 1 (fun n:{ n:Int // InK .i64 n }=>[V.int .i64 n.1]):=by
  refine ⟨by kernel_rfl,fun _=>rfl,fun enc held fuel cs x h=>?_⟩;obtain ⟨n,rfl,_,hw⟩:=DataW.trod_int Tryz.underlying2 h;exact ⟨⟨n,inK_of_wf hw⟩,RelC.cons rfl (.int _ _) RelC.nil⟩
 obtain ⟨op,h0⟩:=Reads.field (Reads.int (W:=W) Tryz.underlying5 (by kernel_rfl)) (i:=0) (hf 0 _ rfl) (by omega);obtain ⟨num,h1⟩:=Reads.field rI (i:=1) (hf 1 _ rfl) (by omega);obtain ⟨name,h2⟩:=Reads.field (reads_str W) (i:=2) (hf 2 _ rfl) (by omega);obtain ⟨a,h3⟩:=Reads.field (Reads.int (W:=W) Tryz.underlying3 (by kernel_rfl)) (i:=3) (hf 3 _ rfl) (by omega);obtain ⟨b,h4⟩:=Reads.field (Reads.int (W:=W) Tryz.underlying3 (by kernel_rfl)) (i:=4) (hf 4 _ rfl) (by omega);obtain ⟨c,h5⟩:=Reads.field (Reads.int (W:=W) Tryz.underlying3 (by kernel_rfl)) (i:=5) (hf 5 _ rfl) (by omega)
 match cs,hl with
 | [c0,c1,c2,c3,c4,c5],_=>exact ⟨⟨⟨op,num.1,name,a,b,c⟩,num.2⟩,h0.append (h1.append (h2.append (h3.append (h4.append h5))))⟩
theorem reads_xnbs (W:World):Reads Tryz.prog W 51 1 (fun s:Sl XNb=>[encSl .any 6 (fun n:XNb=>encXN n.1) s]) :=
 Reads.slice Tryz.underlying51 (by kernel_rfl) (by decide) (reads_xnb W)
theorem reads_exprb (W:World):Reads Tryz.prog W 53 1 (fun s:Sl XNb=>(V.agg [encSl .any 6 (fun n:XNb=>encXN n.1) s]).cells):=by
 refine ⟨by kernel_rfl,fun _=>rfl,fun enc held fuel cs x h=>?_⟩;obtain ⟨xs,n,_,_,hl,hlen,hf⟩:=DataW.trod_struct Tryz.underlying53 h
 have e24:Tryz.prog.cellsOf 53=1:=by kernel_rfl
 rw [e24] at hl;have hx:xs.length=1:=hlen;obtain ⟨s,h0⟩:=Reads.field (reads_xnbs W) (i:=0) (hf 0 _ rfl) (by omega)
 match cs,hl with
 | [c0],_=>exact ⟨s,h0⟩
def unX:Sl XNb→Sl XN
 | .nil => .nil
 | .mk b l => .mk b (l.map (·.1))
theorem unX_in (s:Sl XNb):∀ n∈(unX s).l,InK .i64 n.num:=by
 cases s with
 | nil=>intro x hx;cases hx
 | mk b l =>
  intro x hx;obtain ⟨y,_,rfl⟩:=List.mem_map.1 hx;exact y.2
theorem unX_enc (c:Col) (s:Sl XNb):encSl c 6 (fun n:XNb=>encXN n.1) s=encSl c 6 encXN (unX s):=by
 cases s with
 | nil=>rfl
 | mk b l=>simp only [encSl,unX,List.map_map];rfl
variable {W:World} {H:Type} {enc:TypeId × Value→H} {b0:Nat} {v:Value} {d:DataW H} {ps:List MemPlace}
end Go.Proofs.YtohdjmgdaaipaaaGreatDoor
end

section
namespace Go.Proofs.YtohdjmgdaaipaaaGreatDoor
open Go.RowKit Go.Hs Go.ChangeShapes Go.WideShapes Go.ChangeAt
set_option maxRecDepth 100000
structure AMr where
 kind:Int
 name:List UInt8
 x:Sl XNb
def AMr.am (a:AMr):AM:=⟨a.kind,a.name,unX a.x⟩
theorem reads_stmt (W:World):Reads Tryz.prog W 55 3 (fun a:AMr=>(encAM .any a.am).cells):=by
 refine ⟨by kernel_rfl,fun _=>rfl,fun enc held fuel cs x h=>?_⟩;obtain ⟨xs,n,_,_,hl,hlen,hf⟩:=DataW.trod_struct Tryz.underlying55 h
 have e43:Tryz.prog.cellsOf 55=3:=by kernel_rfl
 rw [e43] at hl;have hx:xs.length=3:=hlen;obtain ⟨k,h0⟩:=Reads.field (Reads.int (W:=W) Tryz.underlying5 (by kernel_rfl)) (i:=0) (hf 0 _ rfl) (by omega);obtain ⟨name,h1⟩:=Reads.field (reads_str W) (i:=1) (hf 1 _ rfl) (by omega);obtain ⟨s,h2⟩:=Reads.field (reads_exprb W) (i:=2) (hf 2 _ rfl) (by omega)
 match cs,hl with
 | [c0,c1,c2],_ =>
  refine ⟨⟨k,name,s⟩,?_⟩;have h2:RelC (Cx.ofW W) [c2] [encSl .any 6 (fun n:XNb=>encXN n.1) s]:=h2;rw [unX_enc] at h2;exact h0.append (h1.append h2)
theorem reads_stmts (W:World):Reads Tryz.prog W 27 1 (fun s:Sl AMr=>[encSl .any 3 (fun a:AMr=>encAM .any a.am) s]) :=
 Reads.slice Tryz.underlying27 (by kernel_rfl) (by decide) (reads_stmt W)
theorem reads_body (W:World):Reads Tryz.prog W 29 1 (fun s:Sl AMr=>(V.agg [encSl .any 3 (fun a:AMr=>encAM .any a.am) s]).cells):=by
 refine ⟨by kernel_rfl,fun _=>rfl,fun enc held fuel cs x h=>?_⟩;obtain ⟨xs,n,_,_,hl,hlen,hf⟩:=DataW.trod_struct Tryz.underlying29 h
 have e24:Tryz.prog.cellsOf 29=1:=by kernel_rfl
 rw [e24] at hl;have hx:xs.length=1:=hlen;obtain ⟨s,h0⟩:=Reads.field (reads_stmts W) (i:=0) (hf 0 _ rfl) (by omega)
 match cs,hl with
 | [c0],_=>exact ⟨s,h0⟩
def unA:Sl AMr→Sl AM
 | .nil => .nil
 | .mk b l => .mk b (l.map AMr.am)
theorem unA_in (s:Sl AMr):∀ a∈(unA s).l,∀ n∈a.x.l,InK .i64 n.num:=by
 cases s with
 | nil=>intro x hx;cases hx
 | mk b l =>
  intro x hx;obtain ⟨y,_,rfl⟩:=List.mem_map.1 hx;exact unX_in y.x
theorem unA_enc (c:Col) (s:Sl AMr):encSl c 3 (fun a:AMr=>encAM c a.am) s=encSl c 3 (encAM c) (unA s):=by
 cases s with
 | nil=>rfl
 | mk b l=>simp only [encSl,unA,List.map_map];rfl
variable {W:World} {H:Type} {enc:TypeId × Value→H} {b0:Nat} {v:Value} {d:DataW H} {ps:List MemPlace}
theorem argB (hv:Value.okWide Tryz.prog W .any b0 29 v) (h:DataW.Trod enc Tryz.prog W 0 (fun _=>true) true 29 v d ps):∃ x:Sl AM,(∀ a∈x.l,∀ n∈a.x.l,InK .i64 n.num)∧Rel (Cx.ofW W) v (.agg [encSl .old 3 (encAM .old) x]):=by
 obtain ⟨fuel,h⟩:=h;obtain ⟨x,hx⟩:=(reads_body W).2.2 enc true fuel _ _ h
 have key:Rel (Cx.ofW W) v (.agg [encSl .any 3 (encAM .any) (unA x)]):=by
  rw [← unA_enc];unfold Value.okWide at hv;rw [Tryz.underlying29] at hv;obtain ⟨cs,rfl,_,_⟩:=hv;have hx':RelC (Cx.ofW W) (Value.agg cs).cells.toList [encSl .any 3 (fun a:AMr=>encAM .any a.am) x]:=hx;exact Rel.of_aggC hx'
 have h2:=key.ofW_old;refine ⟨unA x,unA_in x,?_⟩;simpa only [go_sem,recol_ams,List.map_cons,List.map_nil] using h2
theorem argM (hv:Value.okWide Tryz.prog W .any b0 36 v) (h:DataW.Trod enc Tryz.prog W 0 (fun _=>true) true 36 v d ps):∃ x:Sl (List UInt8),x.l.length≤9223372036854775807∧Rel (Cx.ofW W) v (encSl .old 1 V.str x):=by
 obtain ⟨x,hx⟩:=argL hv h;refine ⟨x,?_,hx⟩;unfold Value.okWide at hv;rw [Tryz.underlying36] at hv;unfold Cell.okWide Cell.ok at hv;rw [Tryz.underlying36] at hv;have hle:IntKind.i64.max=9223372036854775807:=rfl
 cases x with
 | nil=>exact Nat.zero_le _
 | mk b l =>
  simp only [encSl] at hx;generalize hls:l.map V.str=ls at hx
  have hll:l.length=ls.length:=by rw [← hls,List.length_map]
  show l.length≤_
  cases hx with
  | slice0=>rw [hll];exact Nat.zero_le _
  | slice _ _ _ _ b off cap f hcap _ _ _ _ =>
   simp only at hv;obtain ⟨_,h2,_⟩:=hv;rw [hle] at h2;omega
end Go.Proofs.YtohdjmgdaaipaaaGreatDoor
end

section
namespace Go.Proofs.YtohdjmgdaaipaaaGreatDoor
open Go.RowKit Go.Hs Go.ChangeShapes Go.WideShapes Go.ChangeAt
set_option maxRecDepth 100000
set_option maxHeartbeats 4000000
theorem sfMaps:mapsRowed Tryz.prog=true:=by kernel_rfl
theorem sfStops:(Tryz.prog.stops==[])=true:=by kernel_rfl
theorem sfKnobs:(Tryz.prog.stopKnobs==[])=true:=by kernel_rfl
theorem sfKeys:(Rows.actParseRow.plainKeys==Tryz.prog.plainKeys)=true:=by kernel_rfl
theorem sfHeard:Tryz.prog.stopsHeard=true:=by kernel_rfl
theorem sfEnter:Tryz.prog.mayEnter=true:=by kernel_rfl
theorem sfLifted:(Rows.actParseRow.lifted==Tryz.prog.liftsFinal)=true:=by kernel_rfl
theorem sfMake:(Tryz.prog.make==some Rows.actParseRow.make)=true:=by kernel_rfl
end Go.Proofs.YtohdjmgdaaipaaaGreatDoor
end
