/- Part 44 of the proof of a statement of seat YtpoiceejhcpnaaaGreatDoor: HsETypL3 HsTypKn HsETypM5 HsEExpLaid HsEExpLaidG HsEExpArgs. -/
import Derived.Test.YtpoiceejhcpnaaaGreatDoorPart43
import Derived.Test.YtpoiceejhcpnaaaGreatDoorPart39
import Derived.Test.YtpoiceejhcpnaaaGreatDoorRows
import Derived.ProofKit
import Derived.OpenShut
import Derived.LaidLaws
import Derived.Stop.LaidErr
import Derived.Lib.LaidTab
import Derived.Handed
import Derived.ChangeMaps5
set_option linter.unusedSimpArgs false
set_option linter.unusedVariables false
section
namespace Go.Hs
open Go.Proofs
set_option maxRecDepth 10000
theorem shift_step {l:List XN} {b k:Nat} {n:XN} (h:l[k]? = some n) (hb:b≤k):((l.drop b).take (k+1-b)).map (shiftN b)=((l.drop b).take (k-b)).map (shiftN b)++[shiftN b n]:=by
 rw [show k+1-b=(k-b)+1 by omega,List.take_add_one,List.getElem?_drop,show b+(k-b)=k by omega,h,List.map_append];rfl
theorem X.first:∀ z:X,(∀ b,(z.top b).a = -1)∧z.size=1∨∃ a:X,Sub z a 0∧a.size<z.size∧∀ b,(z.top b).a=b+a.size-1
 | .leaf .. => .inl ⟨fun _=>rfl,rfl⟩
 | .un op a => .inr ⟨a,.un (.refl a),by simp only [X.size];omega,fun _=>rfl⟩
 | .bin op a c => .inr ⟨a,.bin1 (.refl a),by simp only [X.size];omega,fun _=>rfl⟩
 | .ite a c d => .inr ⟨a,.ite1 (.refl a),by simp only [X.size];omega,fun _=>rfl⟩
theorem lTypesParts (G:Nat→V) (hE:GExp G) (s:Sl XN) (names:Sl (List UInt8)) (at0:Int) (hat:InK .i64 at0) :
  Spec Tryz.prog G 4 [.agg [encSl .old 6 encXN s],encSl .old 1 V.str names,.int .i64 at0] hNone (fun v _=>v = .bool true):=by
 have hG:=hE.ok
 refine Spec.of_code' 0 123 [.tmp 6] Tryz.func4 rfl rfl rfl rfl fun X0=>?_
 refine AW.seq_k fun K hK=>AW.region (by kernel_rfl) ?_
 simp -implicitDefEqProofs only[go_sem,seval,↓reduceIte]
 intro g3
 refine hK _ ?_
 clear hK K
 refine AW.seqJ (fun (_:Unit)=>st [(1,encSl .old 1 V.str names),(2,.int .i64 at0),(3,.ptr 3 g3 0)] [(3,.cells .new g3 0 [encSl .old 6 encXN s])]) (fun _=>fewT s.l names.l=true∧s.l.length≠0) (fun K1 hK1=>?_) ?_
 ·refine AW.seq_k fun K hK=>AW.region (by kernel_rfl) ?_
  simp -implicitDefEqProofs only[go_sem,seval,↓reduceIte]
  refine CallA.pure hG (by kernel_rfl) ?_
  simp -implicitDefEqProofs only[go_sem,seval,↓reduceIte,recol_xns]
  refine (wFew_spec G hG _ _ s names).mono ?_
  rintro _ _ rfl
  simp -implicitDefEqProofs only[go_sem,seval,↓reduceIte]
  cases hf:fewT s.l names.l with
  | false =>
   simp -implicitDefEqProofs only[go_sem,seval,↓reduceIte]
   refine hK _ ?_
   clear hK K
   refine AW.condS (by simp -implicitDefEqProofs only[go_sem,seval,↓reduceIte];rfl) (fun h27=>?_) (fun h27=>?_)
   ·refine AW.seq_k fun K hK=>AW.region (by kernel_rfl) ?_
    simp -implicitDefEqProofs only[go_sem,seval,↓reduceIte]
    refine CallA.pure hG (by kernel_rfl) ?_
    simp -implicitDefEqProofs only[go_sem,seval,↓reduceIte,List.map_nil]
    refine (wWorks_spec G hE).mono ?_
    rintro _ _ rfl
    simp -implicitDefEqProofs only[go_sem,seval,↓reduceIte]
    refine hK _ ?_
    clear hK K
    refine AW.ret ?_
    simp -implicitDefEqProofs only[go_sem,seval,↓reduceIte]
    refine endK_some ?_
    rfl
   ·cases h27
  | true =>
  by_cases hz:s.l.length=0
  ·have q1:(((s.l.length:Nat):Int)==0)=true:=by simp [hz]
   simp -implicitDefEqProofs only[go_sem,seval,↓reduceIte,q1]
   refine hK _ ?_
   clear hK K
   refine AW.condS (by simp -implicitDefEqProofs only[go_sem,seval,↓reduceIte];rfl) (fun h27=>?_) (fun h27=>?_)
   ·refine AW.seq_k fun K hK=>AW.region (by kernel_rfl) ?_
    simp -implicitDefEqProofs only[go_sem,seval,↓reduceIte]
    refine CallA.pure hG (by kernel_rfl) ?_
    simp -implicitDefEqProofs only[go_sem,seval,↓reduceIte,List.map_nil]
    refine (wWorks_spec G hE).mono ?_
    rintro _ _ rfl
    simp -implicitDefEqProofs only[go_sem,seval,↓reduceIte]
    refine hK _ ?_
    clear hK K
    refine AW.ret ?_
    simp -implicitDefEqProofs only[go_sem,seval,↓reduceIte]
    refine endK_some ?_
    rfl
   ·cases h27
  ·have q1:(((s.l.length:Nat):Int)==0)=false:=by rw [beq_eq_false_iff_ne];omega
   simp -implicitDefEqProofs only[go_sem,seval,↓reduceIte,q1]
   refine hK _ ?_
   clear hK K
   refine AW.condS (by simp -implicitDefEqProofs only[go_sem,seval,↓reduceIte];rfl) (fun h27=>?_) (fun h27=>?_)
   ·cases h27
   refine AW.skip ?_
   simp -implicitDefEqProofs only[go_sem,seval,↓reduceIte]
   exact hK1 _ () ⟨hf,hz⟩ (Weak.st (by simp -implicitDefEqProofs only[go_sem,seval,↓reduceIte];try rfl) (by simp -implicitDefEqProofs only[go_sem,seval,↓reduceIte];try rfl))
 rintro _ ⟨hf,hz⟩
 obtain ⟨hl1,hl2,hl3,hl4⟩:=fewT_true hf
 have hs:s.l.length<1000000:=by omega
 have hnm:∀ n∈s.l,n.name.length<100000:=fun n hn=>by have:=hl4 n hn;omega
 have hnl:names.l.length<1000000:=by omega
 have hT:=fun c c1=>tKinds_spec G hE c c1 s names hs hnm hnl
 have hbad:=kindsP_bad (names:=names.l) (l:=s.l)
 have htree:=kindsP_tree (names:=names.l) (l:=s.l)
 have hlen:=kindsP_len (names:=names.l) (l:=s.l)
 generalize kindsP names.l s.l=p at hT hbad htree hlen
 obtain ⟨W,wi,we⟩:=p
 simp only at hbad htree hlen
 refine AW.seq_k fun K hK=>AW.region (by kernel_rfl) ?_
 simp -implicitDefEqProofs only[go_sem,seval,↓reduceIte]
 refine CallA.pure hG (by kernel_rfl) ?_
 simp -implicitDefEqProofs only[go_sem,seval,↓reduceIte,recol_xns]
 refine (hT _ _).mono ?_
 rintro _ _ rfl
 simp -implicitDefEqProofs only[go_sem,seval,↓reduceIte,encKr,encKs,recol_ks]
 refine hK _ ?_
 clear hK K
 refine AW.seq_k fun K2 hK2=>?_
 refine AW.seq_k fun K hK=>AW.region (by kernel_rfl) ?_
 simp -implicitDefEqProofs only[go_sem,seval,↓reduceIte]
 refine hK _ ?_
 clear hK K
 by_cases he:we=0
 rotate_left
 ·have q1:(we != 0)=true:=by simpa using he
  have hw0:=hbad he
  subst hw0
  refine AW.condS (by simp -implicitDefEqProofs only[go_sem,seval,↓reduceIte];rfl) (fun h37=>?_) (fun h37=>?_)
  ·have q2:((((grownS ([]:List Int)).l.length:Nat):Int)==0)=true:=rfl
   refine AW.seq_k fun K hK=>AW.region (by kernel_rfl) ?_
   simp -implicitDefEqProofs only[go_sem,seval,↓reduceIte,q2]
   refine CallA.pure hG (by kernel_rfl) ?_
   simp -implicitDefEqProofs only[go_sem,seval,↓reduceIte,List.map_nil]
   refine (wWorks_spec G hE).mono ?_
   rintro _ _ rfl
   simp -implicitDefEqProofs only[go_sem,seval,↓reduceIte]
   refine hK _ ?_
   clear hK K
   refine AW.ret ?_
   simp -implicitDefEqProofs only[go_sem,seval,↓reduceIte]
   refine endK_some ?_
   rfl
  ·rw [q1] at h37;cases h37
 subst he
 refine AW.condS (by simp -implicitDefEqProofs only[go_sem,seval,↓reduceIte];rfl) (fun h37=>?_) (fun h37=>?_)
 ·cases h37
 refine AW.skip ?_
 simp -implicitDefEqProofs only[go_sem,seval,↓reduceIte]
 refine hK2 _ ?_
 obtain ⟨x,hx,hl,hc,hk,hW⟩:=htree rfl
 obtain ⟨hln,hlp⟩:=hlen rfl
 have hWW:W=(subs x).map (kindX names.l):=congrArg Prod.fst hW
 refine AW.seq_k fun K3 hK3=>?_
 have q2:(((W.length:Nat):Int) != ((s.l.length:Nat):Int))=false:=by rw [hln];simp
 refine AW.seq_k fun K hK=>AW.region (by kernel_rfl) ?_
 simp -implicitDefEqProofs only[go_sem,seval,↓reduceIte,q2]
 refine hK _ ?_
 clear hK K
 refine AW.condS (by simp -implicitDefEqProofs only[go_sem,seval,↓reduceIte];rfl) (fun h49=>?_) (fun h49=>?_)
 ·cases h49
 refine AW.skip ?_
 simp -implicitDefEqProofs only[go_sem,seval,↓reduceIte]
 refine hK3 _ ?_
 refine AW.seq_k fun K hK=>AW.region (by kernel_rfl) ?_
 simp -implicitDefEqProofs only[go_sem,seval,↓reduceIte]
 refine CallA.pure hG (by kernel_rfl) ?_
 simp -implicitDefEqProofs only[go_sem,seval,↓reduceIte]
 refine (kPick_spec G hG at0 W.length hat ⟨by omega,by omega⟩).mono ?_
 rintro _ _ ⟨i,rfl,hi1,hi2⟩
 obtain ⟨i,rfl⟩:∃ m:Nat,i=m:=⟨i.toNat,by omega⟩
 simp -implicitDefEqProofs only[go_sem,seval,↓reduceIte]
 refine hK _ ?_
 clear hK K
 have hi:i<x.size:=by rw [hln,hl,X.row_len] at hi2;omega
 obtain ⟨y,b,h1,h2,h3,h4⟩:=sub_at x i hi
 have hWi:W[i]? = some (kindX names.l y):=by rw [hWW,List.getElem?_map,h3];rfl
 have hpo:=part_ok (names:=names.l) hx hc hk h1
 have hsh:=h1.shift
 rw [← hl] at hsh
 refine AW.seq_k fun K hK=>AW.region (by kernel_rfl) ?_
 simp -implicitDefEqProofs only[go_sem,seval,↓reduceIte]
 refine hK _ ?_
 clear hK K
 have hget:∀ (z:X),Sub x z b→s.l[b+z.size-1]? = some (z.top b):=fun z hz=>by rw [hl];exact hz.top
 refine AW.seqJ (fun (_:Unit)=>st [(1,encSl .old 1 V.str names),(3,.ptr 3 g3 0),(7,encSl .new 1 (V.int .u8) (grownS W)),(10,.int .i64 i),(11,.int .i64 b)] [(3,.cells .new g3 0 [encSl .old 6 encXN s])]) (fun _=>True) (fun K4 hK4=>?_) ?_
 ·refine AW.block ?_
  refine AW.while (fun (z:X)=>st [(1,encSl .old 1 V.str names),(3,.ptr 3 g3 0),(7,encSl .new 1 (V.int .u8) (grownS W)),(10,.int .i64 i),(11,.int .i64 ((b+z.size-1:Nat):Int))] [(3,.cells .new g3 0 [encSl .old 6 encXN s])])
   (fun z=>Sub x z b) (fun z=>z.size) y h1 (Weak.st (by simp -implicitDefEqProofs only[go_sem,seval,↓reduceIte];exact congrArg _ (by omega)) (by simp -implicitDefEqProofs only[go_sem,seval,↓reduceIte];try rfl)) ?_
  intro z hz L5 hL5
  have hgz:=hget z hz
  have hzs:=hz.size
  have hzp:=z.size_pos
  have hlt:b+z.size-1<s.l.length:=by rw [hl,X.row_len];omega
  generalize hnt:z.top b=nt at hgz
  have hnta:(z.top b).a=nt.a:=by rw [hnt]
  refine AW.seq_k fun K6 hK6=>?_
  refine AW.seq_k fun K hK=>AW.region (by kernel_rfl) ?_
  simp -implicitDefEqProofs only[go_sem,seval,↓reduceIte,hgz,encXN_K,hlt]
  refine hK _ ?_
  clear hK K
  rcases z.first with ⟨ha,hz1⟩ | ⟨a,hsa,hlt2,ha⟩
  ·have q3:decide (nt.a≥0)=false:=by rw [← hnta,ha b];decide
   refine AW.condS (by simp -implicitDefEqProofs only[go_sem,seval,↓reduceIte];rfl) (fun h61=>?_) (fun h61=>?_)
   ·rw [q3] at h61;cases h61
   refine AW.exit ?_
   simp -implicitDefEqProofs only[go_sem,seval,↓reduceIte]
   exact hK4 _ () trivial (Weak.st (by simp -implicitDefEqProofs only[go_sem,seval,↓reduceIte];exact congrArg _ (by omega)) (by simp -implicitDefEqProofs only[go_sem,seval,↓reduceIte];try rfl))
  ·have hap:=a.size_pos
   have hna:nt.a=(b:Int)+a.size-1:=by rw [← hnta,ha b]
   have q3:decide (nt.a≥0)=true:=by rw [decide_eq_true_iff];omega
   refine AW.condS (by simp -implicitDefEqProofs only[go_sem,seval,↓reduceIte];rfl) (fun h61=>?_) (fun h61=>?_)
   rotate_left
   ·rw [q3] at h61;cases h61
   refine AW.skip ?_
   simp -implicitDefEqProofs only[go_sem,seval,↓reduceIte]
   refine hK6 _ ?_
   refine AW.block ?_
   refine AW.region (by kernel_rfl) ?_
   simp -implicitDefEqProofs only[go_sem,seval,↓reduceIte,hgz,encXN_K,hlt]
   have hsb:=hz.trans hsa
   rw [Nat.add_zero] at hsb
   exact hL5 _ ⟨a,hlt2,hsb,Weak.st (by simp -implicitDefEqProofs only[go_sem,seval,↓reduceIte];exact congrArg _ (by omega)) (by simp -implicitDefEqProofs only[go_sem,seval,↓reduceIte];try rfl)⟩
 intro _ _
 have hbi:b≤i:=by have:=y.size_pos;omega
 have hil:i<s.l.length:=by rw [hl,X.row_len];exact hi
 refine AW.seq_k fun K hK=>AW.region (by kernel_rfl) ?_
 simp -implicitDefEqProofs only[go_sem,seval,↓reduceIte]
 intro g12
 refine hK _ ?_
 clear hK K
 refine AW.seq_k fun K7 hK7=>?_
 refine AW.seq_k fun K hK=>AW.region (by kernel_rfl) ?_
 simp -implicitDefEqProofs only[go_sem,seval,↓reduceIte]
 refine hK _ ?_
 clear hK K
 refine AW.block ?_
 refine AW.for (i+1) (fun k (gx:Nat)=>st [(1,encSl .old 1 V.str names),(3,.ptr 3 g3 0),(7,encSl .new 1 (V.int .u8) (grownS W)),(10,.int .i64 i),(11,.int .i64 b),(12,.ptr 12 g12 0),(13,.int .i64 k)]
   [(3,.cells .new g3 0 [encSl .old 6 encXN s]),(12,.cells .new g12 0 [grown 101 gx 6 (((s.l.drop b).take (k-b)).map (shiftN b))]),(101,grownO gx encXN (((s.l.drop b).take (k-b)).map (shiftN b)))])
  (fun k _=>b≤k) b 0 (by omega) (Nat.le_refl _) (Weak.st (by simp -implicitDefEqProofs only[go_sem,seval,↓reduceIte];try rfl) (by rw [Nat.sub_self,List.take_zero];simp -implicitDefEqProofs only[go_sem,seval,↓reduceIte,List.map_nil,grown_nil,grownO_nil];try exact ⟨rfl,rfl⟩)) ?_
 intro k gx hk hbk L8 hL8
 refine AW.seq_k fun K9 hK9=>?_
 refine AW.seq_k fun K hK=>AW.region (by kernel_rfl) ?_
 simp -implicitDefEqProofs only[go_sem,seval,↓reduceIte]
 refine hK _ ?_
 clear hK K
 refine AW.condS (by simp -implicitDefEqProofs only[go_sem,seval,↓reduceIte];rfl) (fun h71=>?_) (fun h71=>?_)
 ·have hk1:k≤i:=by have h71:decide ((k:Int)≤(i:Int))=true:=h71;simp at h71;omega
  have hkl:k<s.l.length:=by omega
  have hg:=List.getElem?_eq_getElem hkl
  have hst:=shift_step hg hbk
  generalize s.l[k]=n at hg hst
  have hnsl:(((s.l.drop b).take (k-b)).map (shiftN (b:Int))).length≤60:=by rw [List.length_map,List.length_take,List.length_drop];omega
  generalize ((s.l.drop b).take (k-b)).map (shiftN (b:Int))=ns at hst hnsl ⊢
  refine AW.skip ?_
  simp -implicitDefEqProofs only[go_sem,seval,↓reduceIte]
  refine hK9 _ ?_
  refine AW.seq_k fun K10 hK10=>?_
  refine AW.block ?_
  refine AW.seq_k fun K hK=>AW.region (by kernel_rfl) ?_
  simp -implicitDefEqProofs only[go_sem,seval,↓reduceIte,hg,encXN_K]
  intro g14
  refine hK _ ?_
  clear hK K
  have hdep:depthP s.l≠0:=by rw [hl,depth_row hx];have:=x.depth_pos;omega
  obtain ⟨_,pa1,pb1,pc1,pa0,pb0,pc0⟩:=plOk_get hdep hg
  have ra : -1≤n.a∧n.a<60:=by
   by_cases h:0<partsOf n.op
   ·have:=pa1 h;omega
   ·rw [pa0 h];decide
  have rb : -1≤n.b∧n.b<60:=by
   by_cases h:1<partsOf n.op
   ·have:=pb1 h;omega
   ·rw [pb0 h];decide
  have rc : -1≤n.c∧n.c<60:=by
   by_cases h:2<partsOf n.op
   ·have:=pc1 h;omega
   ·rw [pc0 h];decide
  have hwa:IntKind.i64.wrap (n.a-(b:Int))=n.a-b:=w64 (by omega) (by omega)
  have hwb:IntKind.i64.wrap (n.b-(b:Int))=n.b-b:=w64 (by omega) (by omega)
  have hwc:IntKind.i64.wrap (n.c-(b:Int))=n.c-b:=w64 (by omega) (by omega)
  have hma:∀ z:Int,(if z > -1 then z else -1)=max (-1) z:=fun z=>by rw [Int.max_def];split<;>split<;>omega
  refine AW.seq_k fun K hK=>AW.region (by kernel_rfl) ?_
  simp -implicitDefEqProofs only[go_sem,seval,↓reduceIte,hwa,hma]
  refine hK _ ?_
  clear hK K
  refine AW.seq_k fun K hK=>AW.region (by kernel_rfl) ?_
  simp -implicitDefEqProofs only[go_sem,seval,↓reduceIte,hwb,hma]
  refine hK _ ?_
  clear hK K
  refine AW.seq_k fun K hK=>AW.region (by kernel_rfl) ?_
  simp -implicitDefEqProofs only[go_sem,seval,↓reduceIte,hwc,hma]
  refine hK _ ?_
  clear hK K
  refine AW.region (by kernel_rfl) ?_
  simp -implicitDefEqProofs only[go_sem,seval,↓reduceIte]
  intro g100
  refine app_grown (f:=encXN) (l:=ns) (l2:=[shiftN b n]) (g:=gx) encXN_cells rfl rfl rfl (by simp -implicitDefEqProofs only[go_sem,seval,↓reduceIte];try rfl) (roomOk_of (by omega) (by simp;omega)) fun g2=>?_
  simp -implicitDefEqProofs only[go_sem,seval,↓reduceIte]
  refine hK10 _ ?_
  refine AW.region (by kernel_rfl) ?_
  simp -implicitDefEqProofs only[go_sem,seval,↓reduceIte]
  refine hL8 _ ⟨by omega,g2,by show b≤k+1;omega,Weak.st (by simp -implicitDefEqProofs only[go_sem,seval,↓reduceIte];exact congrArg _ (w64 (by omega) (by omega))) (by rw [hst];simp -implicitDefEqProofs only[go_sem,seval,↓reduceIte];try rfl)⟩
 ·have hk1:k=i+1:=by have h71:decide ((k:Int)≤(i:Int))=false:=h71;simp at h71;omega
  refine AW.exit ?_
  simp -implicitDefEqProofs only[go_sem,seval,↓reduceIte]
  refine hK7 _ ?_
  rw [hk1,show i+1-b=y.size by omega,hsh]
  refine AW.weak (Weak.stF (fun o=>o==101) (l:=[(1,encSl .old 1 V.str names),(7,encSl .new 1 (V.int .u8) (grownS W)),(10,.int .i64 i),(12,.ptr 12 g12 0)]) (m:=[(12,.cells .new g12 0 [encXs .new (y.row 0)])]) ?_ ?_) ?_
  ·simp -implicitDefEqProofs only[go_sem,seval,↓reduceIte]
   exact ⟨Fz.same _,Fz.same _,Fz.same _,Fz.same _⟩
  ·simp only [allFzO_cons,allFzO_nil,and_true]
   exact FzO.of (c := .new) (fz:=0) (cs:=[grown 101 gx 6 (y.row 0)]) rfl (by simp -implicitDefEqProofs only[go_sem,seval,↓reduceIte];try rfl) ⟨Fz.grown rfl (by simp -implicitDefEqProofs only[go_sem,seval,↓reduceIte];try rfl) encXN_cells,trivial⟩
  have hyn:∀ n∈y.row 0,n.name.length<100000:=by
   intro n hn
   rw [← hsh] at hn
   obtain ⟨n',hn',rfl⟩:=List.mem_map.1 hn
   exact hnm n' (List.mem_of_mem_drop (List.mem_of_mem_take hn'))
  have hyl:(y.row 0).length<1000000:=by rw [X.row_len];omega
  have ho:=fun c c1=>tOf_spec G hE c c1 (grownS (y.row 0)) names (by rw [grownS_l];exact hyl) (by rw [grownS_l];exact hyn) hnl
  simp only [grownS_l,hpo] at ho
  refine AW.seq_k fun K hK=>AW.region (by kernel_rfl) ?_
  simp -implicitDefEqProofs only[go_sem,seval,↓reduceIte,encXs]
  refine CallA.pure hG (by kernel_rfl) ?_
  simp -implicitDefEqProofs only[go_sem,seval,↓reduceIte,recol_xns]
  refine (ho _ _).mono ?_
  rintro _ _ rfl
  simp -implicitDefEqProofs only[go_sem,seval,↓reduceIte,encO3]
  refine hK _ ?_
  clear hK K
  have q5:(kindX names.l y==kindX names.l y)=true:=by simp
  have hiW:i<W.length:=(List.getElem?_eq_some_iff.1 hWi).1
  refine AW.seq_k fun K hK=>AW.region (by kernel_rfl) ?_
  simp -implicitDefEqProofs only[go_sem,seval,↓reduceIte,hWi,q5,hiW]
  refine CallA.pure hG (by kernel_rfl) ?_
  simp -implicitDefEqProofs only[go_sem,seval,↓reduceIte,List.map_nil]
  refine (wWorks_spec G hE).mono ?_
  rintro _ _ rfl
  simp -implicitDefEqProofs only[go_sem,seval,↓reduceIte]
  refine hK _ ?_
  clear hK K
  refine AW.ret ?_
  simp -implicitDefEqProofs only[go_sem,seval,↓reduceIte]
  refine endK_some ?_
  rfl
end Go.Hs
end

section
namespace Go.Hs
set_option maxRecDepth 10000
def partsK:List (List UInt8):=[[49],[116,114,117,101],[120],[121],[40,49,32,60,32,120,41],[40,45,32,49,41]]
def opsK:List (List UInt8):=[[42],[100,105,118],[109,111,100],[43],[45],[60],[60,61],[62],[62,61],[61],[60,62],[97,110,100],[111,114],[120,111,114],[105,109,112,108,105,101,115]]
theorem partsK_len:∀ a∈partsK,a.length≤7:=by decide +kernel
theorem opsK_len:∀ a∈opsK,a.length≤7:=by decide +kernel
theorem knownK2:∀ a∈partsK,∀ b∈partsK,∀ o∈opsK,(exprP (a++[32]++o++[32]++b)).2.2=0:=by decide +kernel
theorem knownK3:∀ a∈partsK,∀ b∈partsK,∀ c∈partsK,(exprP ([105,102,32]++a++[32,116,104,101,110,32]++b++[32,101,108,115,101,32]++c++[32,101,110,100,105,102])).2.2=0:=by decide +kernel
end Go.Hs
end

section
namespace Go.Hs
open Go.Proofs
set_option maxRecDepth 10000
theorem Im.xs (c:Col) (s:Sl XN):(V.agg [encSl c 6 encXN s]).Im:=by
 refine .agg _ fun x hx=>?_
 rw [List.mem_singleton.1 hx]
 exact Im.enc (fun n y hy=>by
  have:=Im.xn n
  cases this with
  | agg _ h=>exact h y hy) s
theorem Rd.xs {H:Heap} (s:Sl XN):Rd H (.agg [encSl .new 6 encXN s]) (.agg [encSl .old 6 encXN s]):=Rd.im (Im.xs .new s) (by rw [recol_agg,List.map_cons,List.map_nil,recol_xns];rfl)
theorem Rd.xs0 {H:Heap}:Rd H (.agg [.nils]) (.agg [encSl .old 6 encXN .nil]):=Rd.im (Im.xs .new .nil) rfl
theorem Rd.xn1 {H:Heap} {o g:Nat} {n:XN} (hH:H o = .cells .new g 0 (encXN n).cells):Rd H (.agg [.msl o g 0 1 6]) (.agg [encSl .old 6 encXN (.mk false [n])]):=by
 refine Cv.agg _ _ rfl fun i h1 h2=>?_
 have h0:i=0:=by simp only [List.length_cons,List.length_nil] at h1;omega
 subst h0
 have:=Rd.msl (H:=H) (o:=o) (g:=g) (fz:=0) (c := .new) (off:=0) (n:=1) (m:=6) (f:=encXN) (f':=encXN) (l:=[n]) (by rw [hH];simp [flat]) encXN_cells (fun n y hy=>by
  have:=Im.xn n
  cases this with
  | agg _ h=>exact h y hy) (fun _=>rfl) (by simp)
 have h2:Rd H (.msl o g 0 1 6) (.slice .old false 6 [encXN n]):=by simpa using this
 exact h2
theorem Rd.nil0 {H:Heap}:Rd H .nils (encSl .old 1 V.str .nil):=Rd.im (Im.strs .new .nil) rfl
theorem Rd.strsL {H:Heap} {o g:Nat} {n:Nat} {l:List (List UInt8)} (hH:H o = .cells .new g 0 (flat (l.map V.str))) (hl:l.length=n):Rd H (.msl o g 0 n 1) (encSl .old 1 V.str (.mk false l)):=by
 subst hl
 have:=Rd.msl (H:=H) (o:=o) (g:=g) (fz:=0) (c := .new) (off:=0) (n:=l.length) (m:=1) (f:=V.str) (f':=V.str) (l:=l) hH (fun _=>rfl) (fun x y hy=>by simp [V.cells] at hy;subst hy;exact .str _) (fun _=>rfl) (by omega)
 rw [List.drop_zero,List.take_length] at this
 simpa [encSl] using this
theorem lenOk {n:Nat} (h:n<100000):¬ ((n:Int) > IntKind.i64.max):=by rw [show IntKind.i64.max=9223372036854775807 from rfl];omega
def nn23:XN:=⟨23,0,[],-1,-1,-1⟩
def notK (a:List UInt8):List (List UInt8):=[[110,111,116,32]++a,[45,32]++a,[32,45,45,32]++a,[101,108,115,101],a++[32,43],[33]]
theorem lTypesKnown (G:Nat→V) (hE:GExp G) (hGo:∀ g,(G g).Old):Spec Tryz.prog G 7 [] hNone (fun v _=>v = .bool true):=by
 have hG:=hE.ok
 refine Spec.of_code' 0 171 [.tmp 0] Tryz.func7 rfl rfl rfl rfl fun X=>?_
 have hKi:=fun s names=>lTypesKinds G hE hGo s names
 have hN:=fun s t names=>lTypesNames G hE s t names
 have hM:=fun s names more=>lTypesMore G hE s names more
 have hQ:=fun s names a ha=>lTypesParts G hE s names a ha
 have hpl:(Sl.mk false partsK).l=partsK:=rfl
 have hpl6:((partsK.length:Nat):Int)=6:=rfl
 refine AW.seq_k fun K hK=>AW.region (by kernel_rfl) ?_
 simp -implicitDefEqProofs only[go_sem,seval,↓reduceIte]
 refine hK _ ?_
 clear hK K
 refine AW.seq_k fun K hK=>AW.region (by kernel_rfl) ?_
 simp -implicitDefEqProofs only[go_sem,seval,↓reduceIte]
 intro g16
 refine hK _ ?_
 clear hK K
 refine AW.weak (Weak.stF (fun o=>o==16) (l:=[(1,encSl .new 1 V.str (.mk false partsK))]) (m:=[]) ?_ trivial) ?_
 ·simp -implicitDefEqProofs only[go_sem,seval,↓reduceIte]
  exact Fz.sl (f:=V.str) (l:=partsK) (m:=1) (g:=g16) (fz:=0) (c := .new) rfl (by simp -implicitDefEqProofs only[go_sem,seval,↓reduceIte];try rfl) (fun _=>rfl)
 refine AW.seq_k fun K1 hK1=>?_
 refine AW.seq_k fun K hK=>AW.region (by kernel_rfl) ?_
 simp -implicitDefEqProofs only[go_sem,seval,↓reduceIte]
 refine hK _ ?_
 clear hK K
 refine AW.block ?_
 refine AW.for 6 (fun i (_:Unit)=>st [(1,encSl .new 1 V.str (.mk false partsK)),(2,.int .i64 i)] []) (fun _ _=>True) 0 () (Nat.zero_le _) trivial (Weak.st (by simp -implicitDefEqProofs only[go_sem,seval,↓reduceIte];try rfl) (by simp -implicitDefEqProofs only[go_sem,seval,↓reduceIte];try rfl)) ?_
 intro i _ hi _ L2 hL2
 refine AW.seq_k fun K3 hK3=>?_
 refine AW.seq_k fun K hK=>AW.region (by kernel_rfl) ?_
 simp -implicitDefEqProofs only[go_sem,seval,↓reduceIte,hpl,hpl6]
 refine hK _ ?_
 clear hK K
 refine AW.condS (by simp -implicitDefEqProofs only[go_sem,seval,↓reduceIte];rfl) (fun h20=>?_) (fun h20=>?_)
 rotate_left
 ·refine AW.exit ?_
  simp -implicitDefEqProofs only[go_sem,seval,↓reduceIte]
  refine hK1 _ ?_
  refine AW.seq_k fun K hK=>AW.region (by kernel_rfl) ?_
  simp -implicitDefEqProofs only[go_sem,seval,↓reduceIte]
  refine CallA.bor hG [.agg [encSl .old 6 encXN .nil],encSl .old 1 V.str .nil] (by kernel_rfl) ⟨Rd.xs0,Rd.nil0,trivial⟩ ?_
  refine (hKi _ _).mono ?_
  rintro _ _ rfl
  refine ⟨.bool _,?_⟩
  simp -implicitDefEqProofs only[go_sem,seval,↓reduceIte]
  intro g164
  refine CallA.bor hG [.agg [encSl .old 6 encXN (.mk false [nn23])],encSl .old 1 V.str .nil] (by kernel_rfl) ⟨Rd.xn1 (by simp -implicitDefEqProofs only[go_sem,seval,↓reduceIte];try rfl),Rd.nil0,trivial⟩ ?_
  refine (hKi _ _).mono ?_
  rintro _ _ rfl
  refine ⟨.bool _,?_⟩
  simp -implicitDefEqProofs only[go_sem,seval,↓reduceIte]
  refine CallA.pure hG (by kernel_rfl) ?_
  simp -implicitDefEqProofs only[go_sem,seval,↓reduceIte,List.map_nil]
  refine (wWorks_spec G hE).mono ?_
  rintro _ _ rfl
  simp -implicitDefEqProofs only[go_sem,seval,↓reduceIte]
  refine hK _ ?_
  clear hK K
  refine AW.ret ?_
  simp -implicitDefEqProofs only[go_sem,seval,↓reduceIte]
  refine endK_some ?_
  rfl
 have hi6:i<6:=by have h20:decide ((i:Int)<6)=true:=h20;simp at h20;omega
 have hgi:partsK[i]? = some partsK[i]:=List.getElem?_eq_getElem hi6
 have hmi:=List.getElem_mem (l:=partsK) hi6
 generalize partsK[i]=a at hgi hmi
 have hal:=partsK_len a hmi
 refine AW.skip ?_
 simp -implicitDefEqProofs only[go_sem,seval,↓reduceIte]
 refine hK3 _ ?_
 refine AW.seqJ (fun (_:Unit)=>st [(1,encSl .new 1 V.str (.mk false partsK)),(2,.int .i64 i)] []) (fun _=>True) (fun K4 hK4=>?_) ?_
 rotate_left
 ·intro _ _
  refine AW.region (by kernel_rfl) ?_
  simp -implicitDefEqProofs only[go_sem,seval,↓reduceIte]
  refine hL2 _ ⟨hi6,(),trivial,Weak.st (by simp -implicitDefEqProofs only[go_sem,seval,↓reduceIte];exact congrArg _ (by rw [w64 (by omega) (by omega)];omega)) (by simp -implicitDefEqProofs only[go_sem,seval,↓reduceIte];try rfl)⟩
 refine AW.block ?_
 refine AW.seqJ (fun (_:Unit)=>st [(1,encSl .new 1 V.str (.mk false partsK)),(2,.int .i64 i)] []) (fun _=>True) (fun K5 hK5=>?_) ?_
 rotate_left
 ·intro _ _
  have m1:¬ (((4+a.length:Nat):Int) > IntKind.i64.max):=lenOk (by omega)
  have m2:¬ (((2+a.length:Nat):Int) > IntKind.i64.max):=lenOk (by omega)
  have m3:¬ (((a.length+2:Nat):Int) > IntKind.i64.max):=lenOk (by omega)
  refine AW.seq_k fun K hK=>AW.regionT ⟨fun _ => .top,fun _ => .pure⟩ (by kernel_rfl) hG (by kernel_rfl) (by kernel_rfl) ?_
  simp -implicitDefEqProofs only[go_sem,seval,↓reduceIte,hpl,hgi,m1,m2,m3]
  intro g148
  refine hK _ ?_
  clear hK K
  refine AW.weak (Weak.stF (fun o=>o==148) (l:=[(1,encSl .new 1 V.str (.mk false partsK)),(2,.int .i64 i),(148,encSl .new 1 V.str (.mk false (notK a))),(149,.int .i64 6),(150,.int .i64 0)]) (m:=[]) ?_ trivial) ?_
  ·simp -implicitDefEqProofs only[go_sem,seval,↓reduceIte]
   exact ⟨Fz.same _,Fz.same _,Fz.sl (f:=V.str) (l:=notK a) (m:=1) (g:=g148) (fz:=0) (c := .new) rfl (by simp -implicitDefEqProofs only[go_sem,seval,↓reduceIte];try rfl) (fun _=>rfl),Fz.same _,Fz.same _⟩
  refine AW.block ?_
  refine AW.for 6 (fun j (_:Unit)=>st [(1,encSl .new 1 V.str (.mk false partsK)),(2,.int .i64 i),(148,encSl .new 1 V.str (.mk false (notK a))),(149,.int .i64 6),(150,.int .i64 j)] []) (fun _ _=>True) 0 () (Nat.zero_le _) trivial (Weak.st (by simp -implicitDefEqProofs only[go_sem,seval,↓reduceIte];try rfl) (by simp -implicitDefEqProofs only[go_sem,seval,↓reduceIte];try rfl)) ?_
  intro j _ hj _ L6 hL6
  refine AW.seq_k fun K hK=>AW.region (by kernel_rfl) ?_
  simp -implicitDefEqProofs only[go_sem,seval,↓reduceIte]
  refine hK _ ?_
  clear hK K
  refine AW.seq_k fun K7 hK7=>?_
  refine AW.condS (by simp -implicitDefEqProofs only[go_sem,seval,↓reduceIte];rfl) (fun h151=>?_) (fun h151=>?_)
  rotate_left
  ·refine AW.exit ?_
   simp -implicitDefEqProofs only[go_sem,seval,↓reduceIte]
   exact hK4 _ () trivial (Weak.st (by simp -implicitDefEqProofs only[go_sem,seval,↓reduceIte];try rfl) (by simp -implicitDefEqProofs only[go_sem,seval,↓reduceIte];try rfl))
  have hj6:j<(notK a).length:=by have h151:decide ((j:Int)<6)=true:=h151;simp at h151;show j<6;omega
  have hgj:(notK a)[j]? = some (notK a)[j]:=List.getElem?_eq_getElem hj6
  have hnl:(Sl.mk false (notK a)).l=notK a:=rfl
  generalize (notK a)[j]=s at hgj
  have hj7:j<6:=hj6
  refine AW.skip ?_
  simp -implicitDefEqProofs only[go_sem,seval,↓reduceIte]
  refine hK7 _ ?_
  refine AW.seqJ (fun (_:Unit)=>st [(1,encSl .new 1 V.str (.mk false partsK)),(2,.int .i64 i),(148,encSl .new 1 V.str (.mk false (notK a))),(149,.int .i64 6),(150,.int .i64 j)] []) (fun _=>True) (fun K8 hK8=>?_) ?_
  rotate_left
  ·intro _ _
   refine AW.region (by kernel_rfl) ?_
   simp -implicitDefEqProofs only[go_sem,seval,↓reduceIte]
   refine hL6 _ ⟨hj7,(),trivial,Weak.st (by simp -implicitDefEqProofs only[go_sem,seval,↓reduceIte];exact congrArg _ (by rw [w64 (by omega) (by omega)];omega)) (by simp -implicitDefEqProofs only[go_sem,seval,↓reduceIte];try rfl)⟩
  refine AW.block ?_
  refine AW.seq_k fun K hK=>AW.region (by kernel_rfl) ?_
  simp -implicitDefEqProofs only[go_sem,seval,↓reduceIte,hnl,hgj]
  refine hK _ ?_
  clear hK K
  refine AW.seq_k fun K hK=>AW.region (by kernel_rfl) ?_
  simp -implicitDefEqProofs only[go_sem,seval,↓reduceIte]
  intro g156
  refine CallA.bor hG [.agg [encSl .old 6 encXN .nil],.str s,encSl .old 1 V.str (.mk false [[120]])] (by kernel_rfl) ⟨Rd.xs0,Rd.im (.str _) rfl,Rd.strsL (by simp -implicitDefEqProofs only[go_sem,seval,↓reduceIte];try rfl) rfl,trivial⟩ ?_
  refine (hN _ _ _).mono ?_
  rintro _ _ rfl
  refine ⟨.bool _,?_⟩
  simp -implicitDefEqProofs only[go_sem,seval,↓reduceIte]
  refine hK _ ?_
  clear hK K
  refine AW.condS (by simp -implicitDefEqProofs only[go_sem,seval,↓reduceIte];rfl) (fun h158=>?_) (fun h158=>?_)
  ·cases h158
  refine AW.skip ?_
  simp -implicitDefEqProofs only[go_sem,seval,↓reduceIte]
  exact hK8 _ () trivial (Weak.st (by simp -implicitDefEqProofs only[go_sem,seval,↓reduceIte];try rfl) (by simp -implicitDefEqProofs only[go_sem,seval,↓reduceIte];try rfl))
 refine AW.seq_k fun K hK=>AW.region (by kernel_rfl) ?_
 simp -implicitDefEqProofs only[go_sem,seval,↓reduceIte]
 refine hK _ ?_
 clear hK K
 refine AW.block ?_
 refine AW.for 6 (fun k (_:Unit)=>st [(1,encSl .new 1 V.str (.mk false partsK)),(2,.int .i64 i),(3,.int .i64 k)] []) (fun _ _=>True) 0 () (Nat.zero_le _) trivial (Weak.st (by simp -implicitDefEqProofs only[go_sem,seval,↓reduceIte];try rfl) (by simp -implicitDefEqProofs only[go_sem,seval,↓reduceIte];try rfl)) ?_
 intro k _ hk _ L6 hL6
 refine AW.seq_k fun K7 hK7=>?_
 refine AW.seq_k fun K hK=>AW.region (by kernel_rfl) ?_
 simp -implicitDefEqProofs only[go_sem,seval,↓reduceIte,hpl,hpl6]
 refine hK _ ?_
 clear hK K
 refine AW.condS (by simp -implicitDefEqProofs only[go_sem,seval,↓reduceIte];rfl) (fun h26=>?_) (fun h26=>?_)
 rotate_left
 ·refine AW.exit ?_
  simp -implicitDefEqProofs only[go_sem,seval,↓reduceIte]
  exact hK5 _ () trivial (Weak.st (by simp -implicitDefEqProofs only[go_sem,seval,↓reduceIte];try rfl) (by simp -implicitDefEqProofs only[go_sem,seval,↓reduceIte];try rfl))
 have hk6:k<6:=by have h26:decide ((k:Int)<6)=true:=h26;simp at h26;omega
 have hgk:partsK[k]? = some partsK[k]:=List.getElem?_eq_getElem hk6
 have hmk:=List.getElem_mem (l:=partsK) hk6
 generalize partsK[k]=b at hgk hmk
 have hbl:=partsK_len b hmk
 refine AW.skip ?_
 simp -implicitDefEqProofs only[go_sem,seval,↓reduceIte]
 refine hK7 _ ?_
 refine AW.seqJ (fun (_:Unit)=>st [(1,encSl .new 1 V.str (.mk false partsK)),(2,.int .i64 i),(3,.int .i64 k)] []) (fun _=>True) (fun K8 hK8=>?_) ?_
 rotate_left
 ·intro _ _
  refine AW.region (by kernel_rfl) ?_
  simp -implicitDefEqProofs only[go_sem,seval,↓reduceIte]
  refine hL6 _ ⟨hk6,(),trivial,Weak.st (by simp -implicitDefEqProofs only[go_sem,seval,↓reduceIte];exact congrArg _ (by rw [w64 (by omega) (by omega)];omega)) (by simp -implicitDefEqProofs only[go_sem,seval,↓reduceIte];try rfl)⟩
 refine AW.block ?_
 refine AW.seqJ (fun (_:Unit)=>st [(1,encSl .new 1 V.str (.mk false partsK)),(2,.int .i64 i),(3,.int .i64 k)] []) (fun _=>True) (fun K9 hK9=>?_) ?_
 rotate_left
 ·intro _ _
  refine AW.seq_k fun K hK=>AW.region (by kernel_rfl) ?_
  simp -implicitDefEqProofs only[go_sem,seval,↓reduceIte]
  refine hK _ ?_
  clear hK K
  refine AW.block ?_
  refine AW.for 6 (fun n (_:Unit)=>st [(1,encSl .new 1 V.str (.mk false partsK)),(2,.int .i64 i),(3,.int .i64 k),(10,.int .i64 n)] []) (fun _ _=>True) 0 () (Nat.zero_le _) trivial (Weak.st (by simp -implicitDefEqProofs only[go_sem,seval,↓reduceIte];try rfl) (by simp -implicitDefEqProofs only[go_sem,seval,↓reduceIte];try rfl)) ?_
  intro n _ hn _ L10 hL10
  refine AW.seq_k fun K11 hK11=>?_
  refine AW.seq_k fun K hK=>AW.region (by kernel_rfl) ?_
  simp -implicitDefEqProofs only[go_sem,seval,↓reduceIte,hpl,hpl6]
  refine hK _ ?_
  clear hK K
  refine AW.condS (by simp -implicitDefEqProofs only[go_sem,seval,↓reduceIte];rfl) (fun h87=>?_) (fun h87=>?_)
  rotate_left
  ·refine AW.exit ?_
   simp -implicitDefEqProofs only[go_sem,seval,↓reduceIte]
   exact hK8 _ () trivial (Weak.st (by simp -implicitDefEqProofs only[go_sem,seval,↓reduceIte];try rfl) (by simp -implicitDefEqProofs only[go_sem,seval,↓reduceIte];try rfl))
  have hn6:n<6:=by have h87:decide ((n:Int)<6)=true:=h87;simp at h87;omega
  have hgn:partsK[n]? = some partsK[n]:=List.getElem?_eq_getElem hn6
  have hmn:=List.getElem_mem (l:=partsK) hn6
  generalize partsK[n]=c at hgn hmn
  have hcl:=partsK_len c hmn
  refine AW.skip ?_
  simp -implicitDefEqProofs only[go_sem,seval,↓reduceIte]
  refine hK11 _ ?_
  refine AW.seqJ (fun (_:Unit)=>st [(1,encSl .new 1 V.str (.mk false partsK)),(2,.int .i64 i),(3,.int .i64 k),(10,.int .i64 n)] []) (fun _=>True) (fun K12 hK12=>?_) ?_
  rotate_left
  ·intro _ _
   refine AW.region (by kernel_rfl) ?_
   simp -implicitDefEqProofs only[go_sem,seval,↓reduceIte]
   refine hL10 _ ⟨hn6,(),trivial,Weak.st (by simp -implicitDefEqProofs only[go_sem,seval,↓reduceIte];exact congrArg _ (by rw [w64 (by omega) (by omega)];omega)) (by simp -implicitDefEqProofs only[go_sem,seval,↓reduceIte];try rfl)⟩
  refine AW.block ?_
  have hkn:(exprP (105::102::32::(a++[32,116,104,101,110,32]++b++[32,101,108,115,101,32]++c++[32,101,110,100,105,102]))).2.2=0:=knownK3 a hmi b hmk c hmn
  have l1:¬ (((3+a.length:Nat):Int) > IntKind.i64.max):=lenOk (by omega)
  have l2:¬ (((a.length+1+1+1+6:Nat):Int) > IntKind.i64.max):=lenOk (by omega)
  have l3:¬ ((((a++[32,116,104,101,110,32]).length+1+1+1+b.length:Nat):Int) > IntKind.i64.max):=lenOk (by simp only [List.length_append,List.length_cons,List.length_nil];omega)
  have l4:¬ ((((a++[32,116,104,101,110,32]++b).length+1+1+1+6:Nat):Int) > IntKind.i64.max):=lenOk (by simp only [List.length_append,List.length_cons,List.length_nil];omega)
  have l5:¬ ((((a++[32,116,104,101,110,32]++b++[32,101,108,115,101,32]).length+1+1+1+c.length:Nat):Int) > IntKind.i64.max):=lenOk (by simp only [List.length_append,List.length_cons,List.length_nil];omega)
  have l6:¬ ((((a++[32,116,104,101,110,32]++b++[32,101,108,115,101,32]++c).length+1+1+1+6:Nat):Int) > IntKind.i64.max):=lenOk (by simp only [List.length_append,List.length_cons,List.length_nil];omega)
  have hsl:(105::102::32::(a++[32,116,104,101,110,32]++b++[32,101,108,115,101,32]++c++[32,101,110,100,105,102])).length<100000:=by simp only [List.length_append,List.length_cons,List.length_nil];omega
  generalize htx:105::102::32::(a++[32,116,104,101,110,32]++b++[32,101,108,115,101,32]++c++[32,101,110,100,105,102])=s at hkn hsl
  have hxp:=xParse_spec G hE s hsl
  generalize exprP s=p at hxp hkn
  obtain ⟨ns,q1,q2⟩:=p
  simp only at hkn
  subst hkn
  have pP:PureC Tryz.prog G 29 [.str s] (.tuple [.agg [encSl .new 6 encXN (grownS ns)],.int .i64 q1,.int .i64 0]):=⟨by kernel_rfl,by
   simp -implicitDefEqProofs only[go_sem,seval,↓reduceIte]
   refine hxp.mono ?_
   rintro _ _ rfl
   simp -implicitDefEqProofs only[go_sem,seval,↓reduceIte,encFr,encXs,recol_xns]⟩
  refine AW.seq_k fun K hK=>AW.regionT ⟨fun i=>if i=18 then .tuple [.agg [encSl .new 6 encXN (grownS ns)],.int .i64 q1,.int .i64 0] else .top,fun _ => .pure⟩ (by kernel_rfl) hG (by kernel_rfl) (by kernel_rfl) ?_
  simp -implicitDefEqProofs only[go_sem,seval,↓reduceIte,hpl,hgi,hgk,hgn,l1,l2,l3,l4,l5,l6,htx]
  refine ⟨pP,?_⟩
  intro g11
  refine hK _ ?_
  clear hK K
  refine AW.seq_k fun K hK=>AW.region (by kernel_rfl) ?_
  simp -implicitDefEqProofs only[go_sem,seval,↓reduceIte]
  intro g117
  refine CallA.bor hG [.agg [encSl .old 6 encXN (grownS ns)],encSl .old 1 V.str (.mk false [[120]])] (by kernel_rfl) ⟨Rd.xs _,Rd.strsL (by simp -implicitDefEqProofs only[go_sem,seval,↓reduceIte];try rfl) rfl,trivial⟩ ?_
  refine (hKi _ _).mono ?_
  rintro _ _ rfl
  refine ⟨.bool _,?_⟩
  simp -implicitDefEqProofs only[go_sem,seval,↓reduceIte]
  intro g123
  refine CallA.bor hG [.agg [encSl .old 6 encXN (grownS ns)],encSl .old 1 V.str (.mk false [[120]]),.int .i64 n] (by kernel_rfl) ⟨Rd.xs _,Rd.strsL (by simp -implicitDefEqProofs only[go_sem,seval,↓reduceIte];try rfl) rfl,Rd.im (.int _ _) rfl,trivial⟩ ?_
  refine (hQ _ _ _ ((inK_iff _).2 (by omega))).mono ?_
  rintro _ _ rfl
  refine ⟨.bool _,?_⟩
  simp -implicitDefEqProofs only[go_sem,seval,↓reduceIte]
  refine hK _ ?_
  clear hK K
  refine AW.condS (by simp -implicitDefEqProofs only[go_sem,seval,↓reduceIte];rfl) (fun h127=>?_) (fun h127=>?_)
  ·cases h127
  refine AW.skip ?_
  simp -implicitDefEqProofs only[go_sem,seval,↓reduceIte]
  exact hK12 _ () trivial (Weak.st (by simp -implicitDefEqProofs only[go_sem,seval,↓reduceIte];try rfl) (by simp -implicitDefEqProofs only[go_sem,seval,↓reduceIte];try rfl))
 refine AW.seq_k fun K hK=>AW.region (by kernel_rfl) ?_
 simp -implicitDefEqProofs only[go_sem,seval,↓reduceIte]
 intro g29
 refine hK _ ?_
 clear hK K
 refine AW.weak (Weak.stF (fun o=>o==29) (l:=[(1,encSl .new 1 V.str (.mk false partsK)),(2,.int .i64 i),(3,.int .i64 k),(29,encSl .new 1 V.str (.mk false opsK)),(30,.int .i64 15),(31,.int .i64 0)]) (m:=[]) ?_ trivial) ?_
 ·simp -implicitDefEqProofs only[go_sem,seval,↓reduceIte]
  exact ⟨Fz.same _,Fz.same _,Fz.same _,Fz.sl (f:=V.str) (l:=opsK) (m:=1) (g:=g29) (fz:=0) (c := .new) rfl (by simp -implicitDefEqProofs only[go_sem,seval,↓reduceIte];try rfl) (fun _=>rfl),Fz.same _,Fz.same _⟩
 refine AW.block ?_
 refine AW.for 15 (fun j (_:Unit)=>st [(1,encSl .new 1 V.str (.mk false partsK)),(2,.int .i64 i),(3,.int .i64 k),(29,encSl .new 1 V.str (.mk false opsK)),(30,.int .i64 15),(31,.int .i64 j)] []) (fun _ _=>True) 0 () (Nat.zero_le _) trivial (Weak.st (by simp -implicitDefEqProofs only[go_sem,seval,↓reduceIte];try rfl) (by simp -implicitDefEqProofs only[go_sem,seval,↓reduceIte];try rfl)) ?_
 intro j _ hj _ L10 hL10
 refine AW.seq_k fun K hK=>AW.region (by kernel_rfl) ?_
 simp -implicitDefEqProofs only[go_sem,seval,↓reduceIte]
 refine hK _ ?_
 clear hK K
 refine AW.seq_k fun K11 hK11=>?_
 refine AW.condS (by simp -implicitDefEqProofs only[go_sem,seval,↓reduceIte];rfl) (fun h32=>?_) (fun h32=>?_)
 rotate_left
 ·refine AW.exit ?_
  simp -implicitDefEqProofs only[go_sem,seval,↓reduceIte]
  exact hK9 _ () trivial (Weak.st (by simp -implicitDefEqProofs only[go_sem,seval,↓reduceIte];try rfl) (by simp -implicitDefEqProofs only[go_sem,seval,↓reduceIte];try rfl))
 have hj15:j<15:=by have h32:decide ((j:Int)<15)=true:=h32;simp at h32;omega
 have hgj:opsK[j]? = some opsK[j]:=List.getElem?_eq_getElem hj15
 have hmj:=List.getElem_mem (l:=opsK) hj15
 generalize opsK[j]=op at hgj hmj
 have hol:=opsK_len op hmj
 have hkn:=knownK2 a hmi b hmk op hmj
 have hol2:(Sl.mk false opsK).l=opsK:=rfl
 refine AW.skip ?_
 simp -implicitDefEqProofs only[go_sem,seval,↓reduceIte]
 refine hK11 _ ?_
 refine AW.seqJ (fun (_:Unit)=>st [(1,encSl .new 1 V.str (.mk false partsK)),(2,.int .i64 i),(3,.int .i64 k),(29,encSl .new 1 V.str (.mk false opsK)),(30,.int .i64 15),(31,.int .i64 j)] []) (fun _=>True) (fun K12 hK12=>?_) ?_
 rotate_left
 ·intro _ _
  refine AW.region (by kernel_rfl) ?_
  simp -implicitDefEqProofs only[go_sem,seval,↓reduceIte]
  refine hL10 _ ⟨hj15,(),trivial,Weak.st (by simp -implicitDefEqProofs only[go_sem,seval,↓reduceIte];exact congrArg _ (by rw [w64 (by omega) (by omega)];omega)) (by simp -implicitDefEqProofs only[go_sem,seval,↓reduceIte];try rfl)⟩
 refine AW.block ?_
 refine AW.seq_k fun K hK=>AW.region (by kernel_rfl) ?_
 simp -implicitDefEqProofs only[go_sem,seval,↓reduceIte,hol2,hgj]
 refine hK _ ?_
 clear hK K
 have l1:¬ (((a.length+1:Nat):Int) > IntKind.i64.max):=lenOk (by omega)
 have l2:¬ ((((a++[32]).length+op.length:Nat):Int) > IntKind.i64.max):=lenOk (by simp only [List.length_append,List.length_cons,List.length_nil];omega)
 have l3:¬ ((((a++[32]++op).length+1:Nat):Int) > IntKind.i64.max):=lenOk (by simp only [List.length_append,List.length_cons,List.length_nil];omega)
 have l4:¬ ((((a++[32]++op++[32]).length+b.length:Nat):Int) > IntKind.i64.max):=lenOk (by simp only [List.length_append,List.length_cons,List.length_nil];omega)
 have hsl:(a++[32]++op++[32]++b).length<100000:=by simp only [List.length_append,List.length_cons,List.length_nil];omega
 generalize htx:a++[32]++op++[32]++b=s at hkn hsl
 refine AW.seq_k fun K hK=>AW.regionT ⟨fun _ => .top,fun _ => .pure⟩ (by kernel_rfl) hG (by kernel_rfl) (by kernel_rfl) ?_
 simp -implicitDefEqProofs only[go_sem,seval,↓reduceIte,hpl,hgi,hgk,l1,l2,l3,l4,htx]
 refine hK _ ?_
 clear hK K
 have hxp:=xParse_spec G hE s hsl
 generalize exprP s=p at hxp hkn
 obtain ⟨ns,q1,q2⟩:=p
 simp only at hkn
 subst hkn
 refine AW.seq_k fun K hK=>AW.region (by kernel_rfl) ?_
 simp -implicitDefEqProofs only[go_sem,seval,↓reduceIte]
 refine CallA.pure hG (by kernel_rfl) ?_
 simp -implicitDefEqProofs only[go_sem,seval,↓reduceIte]
 refine hxp.mono ?_
 rintro _ _ rfl
 simp -implicitDefEqProofs only[go_sem,seval,↓reduceIte,encFr,encXs,recol_xns]
 intro g7
 refine hK _ ?_
 clear hK K
 refine AW.seq_k fun K hK=>AW.region (by kernel_rfl) ?_
 simp -implicitDefEqProofs only[go_sem,seval,↓reduceIte]
 intro g58
 refine CallA.bor hG [.agg [encSl .old 6 encXN (grownS ns)],encSl .old 1 V.str (.mk false [[120]])] (by kernel_rfl) ⟨Rd.xs _,Rd.strsL (by simp -implicitDefEqProofs only[go_sem,seval,↓reduceIte];try rfl) rfl,trivial⟩ ?_
 refine (hKi _ _).mono ?_
 rintro _ _ rfl
 refine ⟨.bool _,?_⟩
 simp -implicitDefEqProofs only[go_sem,seval,↓reduceIte]
 intro g65
 refine CallA.bor hG [.agg [encSl .old 6 encXN (grownS ns)],.str s,encSl .old 1 V.str (.mk false [[120]])] (by kernel_rfl) ⟨Rd.xs _,Rd.im (.str _) rfl,Rd.strsL (by simp -implicitDefEqProofs only[go_sem,seval,↓reduceIte];try rfl) rfl,trivial⟩ ?_
 refine (hN _ _ _).mono ?_
 rintro _ _ rfl
 refine ⟨.bool _,?_⟩
 simp -implicitDefEqProofs only[go_sem,seval,↓reduceIte]
 intro g71 g72
 refine CallA.bor hG [.agg [encSl .old 6 encXN (grownS ns)],encSl .old 1 V.str (.mk false [[120]]),encSl .old 1 V.str (.mk false [[121],[122]])] (by kernel_rfl) ⟨Rd.xs _,Rd.strsL (by simp -implicitDefEqProofs only[go_sem,seval,↓reduceIte];try rfl) rfl,Rd.strsL (by simp -implicitDefEqProofs only[go_sem,seval,↓reduceIte];try rfl) rfl,trivial⟩ ?_
 refine (hM _ _ _).mono ?_
 rintro _ _ rfl
 refine ⟨.bool _,?_⟩
 simp -implicitDefEqProofs only[go_sem,seval,↓reduceIte]
 intro g78
 refine CallA.bor hG [.agg [encSl .old 6 encXN (grownS ns)],encSl .old 1 V.str (.mk false [[120]]),.int .i64 k] (by kernel_rfl) ⟨Rd.xs _,Rd.strsL (by simp -implicitDefEqProofs only[go_sem,seval,↓reduceIte];try rfl) rfl,Rd.im (.int _ _) rfl,trivial⟩ ?_
 refine (hQ _ _ _ ((inK_iff _).2 (by omega))).mono ?_
 rintro _ _ rfl
 refine ⟨.bool _,?_⟩
 simp -implicitDefEqProofs only[go_sem,seval,↓reduceIte]
 refine hK _ ?_
 clear hK K
 refine AW.condS (by simp -implicitDefEqProofs only[go_sem,seval,↓reduceIte];rfl) (fun h82=>?_) (fun h82=>?_)
 ·cases h82
 refine AW.skip ?_
 simp -implicitDefEqProofs only[go_sem,seval,↓reduceIte]
 exact hK12 _ () trivial (Weak.st (by simp -implicitDefEqProofs only[go_sem,seval,↓reduceIte];try rfl) (by simp -implicitDefEqProofs only[go_sem,seval,↓reduceIte];try rfl))
end Go.Hs
end

section
namespace Go.Proofs.YtpoiceejhcpnaaaGreatDoor
open Go.RowKit Go.Hs
set_option maxRecDepth 100000
def laidAll:List (String × DataW Unit):=[("math/bits.deBruijn32tab",Rows.laid_math_bits_deBruijn32tab),("math/bits.deBruijn64tab",Rows.laid_math_bits_deBruijn64tab),("internal/strconv.uint64pow10",Rows.laid_internal_strconv_uint64pow10),("unicode/utf8.acceptRanges",Rows.laid_unicode_utf8_acceptRanges),("strconv.ErrRange",Rows.laid_strconv_ErrRange),("strconv.ErrSyntax",Rows.laid_strconv_ErrSyntax),("hopscotch/lex.signs",Rows.laid_hopscotch_lex_signs),("unicode/utf8.first",Rows.laid_unicode_utf8_first)]
noncomputable def low:Nat:=(World.holding Tryz.prog default ⟨#[],#[],[]⟩).heap.size
def b32:List Int:=[0,1,28,2,29,14,24,3,30,22,20,15,25,17,4,8,31,27,13,23,21,19,16,7,26,12,18,6,11,5,10,9]
def b64:List Int:=0::1::56::2::57::49::28::3::61::58::42::50::38::29::17::4::62::47::59::36::45::43::51::22::53::39::33::30::24::18::12::5::63::55::48::27::60::41::37::16::46::35::44::21::52::32::23::11::54::26::40::15::34::20::31::10::25::14::19::9::13::8::7::6::[]
def acR:List Int:=[128,191,160,191,128,159,144,191,128,143]++List.replicate 22 0
def errR:ByteArray:={ data := #[118,97,108,117,101,32,111,117,116,32,111,102,32,114,97,110,103,101] }
def errS:ByteArray:={ data := #[105,110,118,97,108,105,100,32,115,121,110,116,97,120] }
def withCells (cs:Array Value):Obj→Obj
 | .cells _ t frozen => .cells cs t frozen
 | o=>o
noncomputable def laidWorld (os:Os):World :=
 let w0:=World.holding Tryz.prog os ⟨#[.cells #[.string errR] 240,.cells #[.string errS] 240],#[],[]⟩
 { w0 with heap:=(((((((w0.heap.modify 1 (withCells #[.iface 238 (.pointer (some ⟨low,0,none⟩))])).modify 6 (withCells #[.iface 238 (.pointer (some ⟨low+1,0,none⟩))])).modify 3
   (withCells (Lib.pow10Tab.map (Value.int .u64)).toArray)).modify 7 (withCells (b32.map (Value.int .u8)).toArray)).modify 8 (withCells (b64.map (Value.int .u8)).toArray)).modify 5 (withCells (acR.map (Value.int .u8)).toArray)).modify
   0 (withCells (signsL.map fun s=>Value.string ⟨s.toArray⟩).toArray)).modify 4 (withCells (Pinned.utf8FirstZ.map fun (n:Nat)=>Value.int .u8 (n:Int)).toArray) }
theorem laidWorld_met (os:Os) (args:Array Value):laidMet Tryz.prog laidAll ((laidWorld os).forCall (fun _ _=>0) ⟨#[],args,[]⟩).memory :=
 laidMet_of_run' 8 (by kernel_rfl) (by kernel_rfl)
end Go.Proofs.YtpoiceejhcpnaaaGreatDoor
end

section
namespace Go.Proofs.YtpoiceejhcpnaaaGreatDoor
open Go.RowKit Go.Hs
set_option maxRecDepth 100000
theorem laidMet_tail {P:Program} {W:World} {x:String × DataW Unit} {r:List (String × DataW Unit)} (h:laidMet P (x::r) W):laidMet P r W:=by
 obtain ⟨n,d⟩:=x
 obtain ⟨ps,⟨g0,t0,cs0,f0,p0,q0,hg0,ht0,hv0,hd0,hq,e0⟩,hnd,hrows⟩:=h
 subst e0
 exact ⟨q0,hq,(List.nodup_append.1 hnd).2.1,fun b off hm=>hrows b off (List.mem_append.2 (.inr hm))⟩
noncomputable def gE (m:Int):Nat→V:=fun g=>if g=1 then .view .old (.iface 238 (.view .old (.agg []))) else if g=3 then .view .old (.agg (Lib.pow10Tab.map (V.int .u64)))
 else if g=0 then .view .old (.agg (signsL.map V.str)) else if g=2 then .view .old (.int .i64 m) else .top
theorem recolL_ints (f:Col→Col):∀ l:List Int,V.recolL f (l.map (V.int .u64))=l.map (V.int .u64)
 | []=>rfl
 | x::r=>by simp only [List.map_cons,V.recolL];rw [recolL_ints f r];rfl
theorem recolL_strs (f:Col→Col):∀ l:List (List UInt8),V.recolL f (l.map V.str)=l.map V.str
 | []=>rfl
 | x::r=>by simp only [List.map_cons,V.recolL];rw [recolL_strs f r];rfl
theorem gE_ok (m:Int):GExp (gE m) where
 ok:=fun g=>by
  unfold gE
  split
  ·exact ⟨rfl,.view _ _ fun x hx=>by simp [V.cells] at hx;subst hx;exact .iface _ _ (.view _ _ fun x hx=>by simp [V.cells] at hx)⟩
  ·split
   ·refine ⟨by simp only [V.recol,Col.ent,recolL_ints],.view _ _ fun x hx=>?_⟩
    obtain ⟨n,_,rfl⟩:=List.mem_map.1 hx
    exact .int _ _
   ·split
    ·refine ⟨by simp only [V.recol,Col.ent,recolL_strs],.view _ _ fun x hx=>?_⟩
     obtain ⟨n,_,rfl⟩:=List.mem_map.1 hx
     exact .str _
    ·split
     ·exact ⟨rfl,.view _ _ fun x hx=>by simp [V.cells] at hx;subst hx;exact .int _ _⟩
     ·exact ⟨rfl,.top⟩
 er:=⟨_,_,_,rfl⟩
 tab:=⟨_,rfl⟩
 sg:=⟨_,rfl⟩
 ml:=⟨_,m,rfl⟩
theorem gE_old (m:Int) (g:Nat):(gE m g).Old:=by
 unfold gE
 split
 ·exact .view _ fun x hx=>by simp [V.cells] at hx;subst hx;exact .iface _ _ (.view _ fun x hx=>by simp [V.cells] at hx)
 ·split
  ·refine .view _ fun x hx=>?_
   obtain ⟨n,_,rfl⟩:=List.mem_map.1 hx
   exact .int _ _
  ·split
   ·refine .view _ fun x hx=>?_
    obtain ⟨n,_,rfl⟩:=List.mem_map.1 hx
    exact .str _
   ·split
    ·exact .view _ fun x hx=>by simp [V.cells] at hx;subst hx;exact .int _ _
    ·exact .top
theorem gER:Tryz.prog.globalNamed "strconv.ErrRange" = some 1:=by kernel_rfl
theorem gERType:(Tryz.prog.globals[1]?).map (·.type)=some 136:=by kernel_rfl
theorem cells111:Tryz.prog.cellsOf 240=1:=by kernel_rfl
theorem cells9:Tryz.prog.cellsOf 9=1:=by kernel_rfl
theorem star : "*" ++ "errors.errorString" = "*errors.errorString" := by decide
theorem row109 (u:TypeId) (h:Tryz.prog.typeName? 3 u=some "*errors.errorString"):u=238 :=
 typeName_ptr_named (nm := "errors.errorString") (by rw [star];kernel_rfl) (by kernel_rfl) (by decide) u (by rw [star];exact h)
theorem gTab:Tryz.prog.globalNamed "internal/strconv.uint64pow10" = some 3:=by kernel_rfl
theorem gTabType:∃ t n,(Tryz.prog.globals[3]?).map (·.type)=some t∧Tryz.prog.underlying t=some (.array n 182)∧Tryz.prog.cellsOf t=n∧n=20:=by
 refine ⟨(((Tryz.prog.globals[3]?).map (·.type)).getD 0),20,by kernel_rfl,by kernel_rfl,by kernel_rfl,rfl⟩
theorem laid_tab {W:World} (h:laidMet Tryz.prog laidAll W):Lib.TabIs Tryz.prog W "internal/strconv.uint64pow10" .u64 Lib.pow10Tab:=by
 obtain ⟨t,n,h1,h2,h3,rfl⟩:=gTabType
 have e:(Rows.laid_internal_strconv_uint64pow10:DataW Unit)=Lib.tabData .u64 Lib.pow10Tab:=by rfl
 have h4:=laidMet_tail (laidMet_tail h)
 rw [e] at h4
 exact Lib.tabIs_of_head gTab h1 h2 Tryz.underlying182 (by kernel_rfl) h3 h4
theorem laid_err {W:World} (h:laidMet Tryz.prog laidAll W):∃ b off,W.cell? ⟨1,0,none⟩=some (.iface 238 (.pointer (some ⟨b,off,none⟩))):=by
 obtain ⟨a,s,h1,h2,_,_⟩:=laid_sentinel (laidMet_tail (laidMet_tail (laidMet_tail (laidMet_tail h)))) gER gERType Tryz.underlying136 row109 Tryz.underlying238 Tryz.underlying240 rfl rfl Tryz.underlying9 cells111 cells9
 have h0:=World.var?_cell gER h1 0
 have hs:=World.cell?_spot h2
 obtain ⟨b,off,sp⟩:=a
 have hs:sp=none:=hs
 subst hs
 exact ⟨b,off,by simpa using h0⟩
def strData {H:Type} (zs:List (List UInt8)):DataW H := .agg (zs.map fun z => .lit (.string z))
theorem cells_of_strs {H:Type} {enc:TypeId × Value→H} {P:Program} {w:World} {base:Nat} {sp:Nat→Bool} {held:Bool} {fuel:Nat} {t e:TypeId} {n:Nat} {cs:List Value} {zs:List (List UInt8)} {p:List MemPlace}
  (ht:P.underlying t=some (.array n e)) (he:P.underlying e=some .string) (hce:P.cellsOf e=1) (hct:P.cellsOf t=n)
  (h:DataW.trod enc P w base sp held fuel t cs=some (strData zs,p)):cs.length=zs.length∧∀ i (hi:i<zs.length),∃ s:ByteArray,cs[i]? = some (.string s)∧s.data.toList=zs[i]:=by
 cases fuel with
 | zero=>simp [DataW.trod] at h
 | succ fuel =>
  simp only [DataW.trod,ht,hce,hct,Nat.mul_one] at h
  split at h
  ·rename_i hl
   obtain ⟨xs,hm,hx⟩:=Option.map_eq_some_iff.1 h
   have hxs:xs.map (·.1)=zs.map fun z=>(DataW.lit (.string z):DataW H):=by
    have:=congrArg Prod.fst hx
    simpa [strData] using this
   have hxl:xs.length=n:=by simpa using Lib.mapM_length hm
   have hzl:zs.length=n:=by
    have:=congrArg List.length hxs
    simp at this
    omega
   refine ⟨by omega,fun i hi=>?_⟩
   have hin:i<n:=by omega
   obtain ⟨b,hb,hf⟩:=Lib.mapM_at hm i i (by simp [hin])
   obtain ⟨z,hc,rfl,_⟩:=DataW.trod_string he hf
   have h1:cs[i]? = some (.string z):=by
    have:=congrArg (·[0]?) hc
    simpa [List.getElem?_take,List.getElem?_drop] using this
   have h2:(xs.map (·.1))[i]? = some (DataW.lit (.string z.data.toList):DataW H):=by simp [hb]
   rw [hxs,List.getElem?_map,List.getElem?_eq_getElem hi] at h2
   refine ⟨z,h1,?_⟩
   have h3:(DataW.lit (.string zs[i]):DataW H) = .lit (.string z.data.toList):=Option.some.inj h2
   injection h3 with h3
   injection h3 with h3
   exact h3.symm
  ·cases h
theorem gSg:Tryz.prog.globalNamed "hopscotch/lex.signs" = some 0:=by kernel_rfl
theorem gSgType:(Tryz.prog.globals[0]?).map (·.type)=some 148:=by kernel_rfl
theorem laid_signs {W:World} (h:laidMet Tryz.prog laidAll W):∃ cs:Array Value,W.var? Tryz.prog "hopscotch/lex.signs" = some cs∧cs.size=14∧∀ i (hi:i<signsL.length),∃ s:ByteArray,cs[i]? = some (.string s)∧s.data.toList=signsL[i]:=by
 have e:(Rows.laid_hopscotch_lex_signs:DataW Unit)=strData signsL:=by rfl
 have h4:=laidMet_tail (laidMet_tail (laidMet_tail (laidMet_tail (laidMet_tail (laidMet_tail h)))))
 rw [e] at h4
 obtain ⟨ps,⟨g',t',cs,fuel,p,q,hg',ht',hvar,hd,_,_⟩,_⟩:=h4
 obtain rfl:=Option.some.inj (gSg.symm.trans hg')
 obtain rfl:=Option.some.inj (gSgType.symm.trans ht')
 obtain ⟨h1,h2⟩:=cells_of_strs Tryz.underlying148 Tryz.underlying9 cells9 (by kernel_rfl) hd
 refine ⟨_,hvar,(by simpa using h1:cs.size=signsL.length).trans rfl,fun i hi=>?_⟩
 obtain ⟨s,h3,h4⟩:=h2 i hi
 exact ⟨s,by simpa using h3,h4⟩
theorem maxlen_of {W:World} (h:W.ShapedOpen Tryz.prog):∃ m,W.cell? ⟨2,0,none⟩=some (.int .i64 m):=by
 obtain ⟨cs,hh,hs,hr⟩:=h.1 2 #[.int .i64 0] 3 (of_decide_eq_true (by kernel_rfl)) (by kernel_rfl)
 obtain ⟨ts,hts,_,hall⟩:=hr (by kernel_rfl)
 rw [show Tryz.prog.cellTypes Tryz.prog.depth 3=some [3] by kernel_rfl] at hts
 cases hts
 have h1:0<cs.size:=by rw [hs];decide
 obtain ⟨u,hu',hok⟩:=hall 0 cs[0] (by simp [h1])
 have:u=3:=by simpa using hu'.symm
 subst this
 have hcell:W.cell? ⟨2,0,none⟩=some cs[0]:=by simp [World.cell?,hh,h1]
 rw [hcell]
 unfold Cell.ok at hok
 rw [Tryz.underlying3] at hok
 cases hv:cs[0]<;>rw [hv] at hok<;>first | (obtain ⟨rfl,_⟩:=hok;exact ⟨_,rfl⟩) | simp at hok
theorem laid_G {W:World} (h:laidMet Tryz.prog laidAll W) (hS:W.ShapedOpen Tryz.prog):∃ m,∀ g,RelG (Cx.ofW W) g (gE m g):=by
 obtain ⟨m,hml⟩:=maxlen_of hS
 refine ⟨m,fun g=>?_⟩
 unfold gE
 split
 ·rename_i hg
  subst hg
  obtain ⟨b,off,h1⟩:=laid_err h
  refine ⟨?_,trivial⟩
  refine .view .old _ 1 0 (fun _ => .iface 238 (.pointer (some ⟨b,off,none⟩))) (fun i hi=>?_) (fun i hi=>?_)
  ·have:i=0:=by simpa [V.cells] using hi
   subst this
   refine ⟨by show (W.cell? _).isSome=true;rw [h1];rfl,World.block_lt_of_cell? _ _ h1,h1,rfl⟩
  ·have:i=0:=by simpa [V.cells] using hi
   subst this
   exact .iface _ _ _ (.view .old _ b off (fun _ => .nilIface) (fun i hi=>by simp [V.cells] at hi) (fun i hi=>by simp [V.cells] at hi))
 ·split
  ·rename_i hg
   subst hg
   have ht:=laid_tab h
   have hc:∀ i (hi:i<Lib.pow10Tab.length),W.cell? ⟨3,i,none⟩=some (.int .u64 (Lib.pow10Tab.getD i 0)):=fun i hi=>ht.cell gTab i hi
   have hlen:Lib.pow10Tab.length=20:=Lib.pow10Tab_length
   have hlt:3<W.heap.size:=World.block_lt_of_cell? _ _ (hc 0 (by omega))
   have hv:W.var? Tryz.prog "internal/strconv.uint64pow10" = some (Lib.pow10Tab.map fun z=>Value.int .u64 z).toArray:=ht
   refine ⟨?_,?_⟩
   ·refine .view .old _ 3 0 (fun i => .int .u64 (Lib.pow10Tab.getD i 0)) (fun i hi=>?_) (fun i hi=>?_)
    ·have hi:i<Lib.pow10Tab.length:=by simpa [V.cells] using hi
     rw [Nat.zero_add]
     exact ⟨by show (W.cell? _).isSome=true;rw [hc i hi];rfl,hlt,hc i hi,rfl⟩
    ·have hi':i<Lib.pow10Tab.length:=by simpa [V.cells] using hi
     have key:∀ v,v=V.int .u64 (Lib.pow10Tab.getD i 0)→Rel (Cx.ofW W) (Value.int .u64 (Lib.pow10Tab.getD i 0)) v:=fun v e=>by rw [e];exact .int _ _
     exact key _ (by simp [V.cells,List.getD,hi'])
   ·refine ⟨hlt,?_⟩
    unfold World.var? at hv
    rw [gTab] at hv
    have hv:(match W.heap[3]? with | some (Obj.cells cs _ _)=>some cs | _=>none)=some (Lib.pow10Tab.map fun z=>Value.int .u64 z).toArray:=hv
    split at hv
    ·rename_i cs t fr hh
     cases hv
     exact ⟨_,t,fr,hh,by simp⟩
    ·cases hv
  ·split
   ·rename_i hg
    subst hg
    obtain ⟨cs,hv,hsz,hcs⟩:=laid_signs h
    have h0:=fun i=>World.var?_cell gSg hv i
    have hc:∀ i (hi:i<signsL.length),∃ s:ByteArray,W.cell? ⟨0,i,none⟩=some (.string s)∧s.data.toList=signsL[i]:=fun i hi=>by
     obtain ⟨s,h1,h2⟩:=hcs i hi
     exact ⟨s,by rw [h0 i];exact h1,h2⟩
    have hlt:0<W.heap.size:=by
     obtain ⟨s,h1,_⟩:=hc 0 (by decide)
     exact World.block_lt_of_cell? _ _ h1
    refine ⟨?_,?_⟩
    ·refine .view .old _ 0 0 (fun i=>(cs[i]?).getD undef) (fun i hi=>?_) (fun i hi=>?_)
     ·have hi:i<signsL.length:=by simpa [V.cells] using hi
      obtain ⟨s,h1,_⟩:=hcs i hi
      rw [Nat.zero_add,h1]
      have h2:W.cell? ⟨0,i,none⟩=some (.string s):=by rw [h0 i];exact h1
      exact ⟨by show (W.cell? _).isSome=true;rw [h2];rfl,hlt,h2,rfl⟩
     ·have hi':i<signsL.length:=by simpa [V.cells] using hi
      obtain ⟨s,h1,h2⟩:=hcs i hi'
      rw [h1]
      have key:∀ v,v=V.str signsL[i]→Rel (Cx.ofW W) (Value.string s) v:=fun v e=>by rw [e];exact .str _ _ h2
      exact key _ (by simp [V.cells])
    ·refine ⟨hlt,?_⟩
     unfold World.var? at hv
     rw [gSg] at hv
     have hv:(match W.heap[0]? with | some (Obj.cells cs _ _)=>some cs | _=>none)=some cs:=hv
     split at hv
     ·rename_i cs' t fr hh
      cases hv
      exact ⟨_,t,fr,hh,by rw [hsz];rfl⟩
     ·cases hv
   ·split
    ·rename_i hg
     subst hg
     refine ⟨?_,trivial⟩
     refine .view .old _ 2 0 (fun _ => .int .i64 m) (fun i hi=>?_) (fun i hi=>?_)
     ·have:i=0:=by simpa [V.cells] using hi
      subst this
      refine ⟨by show (W.cell? _).isSome=true;rw [hml];rfl,World.block_lt_of_cell? _ _ hml,hml,rfl⟩
     ·have:i=0:=by simpa [V.cells] using hi
      subst this
      exact .int _ _
    ·exact ⟨.top _,trivial⟩
end Go.Proofs.YtpoiceejhcpnaaaGreatDoor
end

section
namespace Go.Proofs.YtpoiceejhcpnaaaGreatDoor
open Go.RowKit Go.Hs Go.ChangeShapes Go.WideShapes Go.ChangeAt
open Go.ChangeMaps (open_string shut_string)
set_option maxRecDepth 100000
variable {W:World} {H:Type} {enc:TypeId × Value→H} {b0:Nat} {v:Value} {d:DataW H} {ps:List MemPlace}
theorem own:ownKnob Tryz.prog.godebug=none:=by kernel_rfl
theorem lift_shaped {a:Assume} {C:Checked} {os:Os} {f:FuncId} {fn:Func} {H:Type} {enc:TypeId × Value→H} {s:ChangeSpec} {conds:List PathCond} {apart fresh handsOn again:Bool} {X:World→Array Value→Prop}
  (hX:∀ (w w':World) (args:Array Value),w.heap=w'.heap→X w args→X w' args)
  (ownk:ownKnob C.prog.godebug=none) (started:os.Started) (noInit:C.prog.inits.idxOf? f=none) (hfn:C.prog.funcs[f]? = some fn)
  (witness:∃ (w:World) (tape:Tape) (i:Input),w.os=os∧(w.forCall tape i).Shaped C.prog∧i.vars=[]∧Input.okWide C.prog (w.forCall tape i) .any w.heap.size f i ∧
   ((s.pre enc C.prog fn conds apart (w.forCall tape i).memory i.args∧X (w.forCall tape i).memory i.args)∧sizedMet enc C.prog fn (OpenSpec.ofChange s) apart (w.forCall tape i).memory i.args)∧a.holds C.prog (lone (Frame.enter C.prog f i.args .normal) [] (w.forCall tape i)))
  (contract:∀ (W:World) (base:Nat) (args:Array Value) (ds gs:List (DataW H)) (before:List MemPlace),W.ShapedOpen C.prog →
   (∀ (j:Nat) t v,fn.params[j]? = some t→args[j]? = some v→Value.okWide C.prog W .any base t v) →
   DataW.Whole enc C.prog fn.params.toList s.vars apart W args.toList ds gs before→X W args →
   Calls C.prog f args W fun e W'=>∃ v,e = .returned v∧s.post enc C.prog fn apart fresh handsOn again W args v W') :
  ReturnsInHanded a C os f .any (fun w args=>(s.pre enc C.prog fn conds apart w args∧X w args)∧sizedMet enc C.prog fn (OpenSpec.ofChange s) apart w args) (s.post enc C.prog fn apart fresh handsOn again):=by
 refine returnsInHanded_of_calls ownk started noInit witness ?_
 intro w tape i _ hsh _ hok hpre _
 obtain ⟨_,_,_,fn',hfn',_,_,_,_,hval⟩:=hok
 have e:fn'=fn:=Option.some.inj (hfn'.symm.trans hfn)
 subst e
 obtain ⟨⟨⟨ds,gs,before,hw,_⟩,hx⟩,_⟩:=hpre
 have hw':=DataW.Whole.of_heap (w':=w.forCall tape i) (by rfl) hw
 refine (contract (w.forCall tape i) w.heap.size i.args ds gs before hsh hval hw' (hX _ _ _ (by rfl) hx)).mono fun e W' ⟨v,he,hp⟩=>?_
 subst he
 exact ChangeSpec.post_blind hp
end Go.Proofs.YtpoiceejhcpnaaaGreatDoor
end
