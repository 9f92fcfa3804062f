/- Part 43 of the proof of a statement of seat YtpoiceejhcpnaaaGreatDoor: HsETypL1 HsTypLaw2 HsETypL2 HsTypLaw3 HsETypM HsETypM1 HsETypM2 HsENumRefP HsERedR HsERedR2 HsExprGram HsERedR3 HsERedR4 HsERedR5 HsERedR6 HsETypM3 HsETypM4. -/
import Derived.Test.YtpoiceejhcpnaaaGreatDoorPart41
import Derived.Test.YtpoiceejhcpnaaaGreatDoorPart42
import Derived.Test.YtpoiceejhcpnaaaGreatDoorPart39
import Derived.Test.YtpoiceejhcpnaaaGreatDoorPart32
import Derived.Test.YtpoiceejhcpnaaaGreatDoorPart38
import Derived.Test.YtpoiceejhcpnaaaGreatDoorPart36
set_option linter.unusedSimpArgs false
set_option linter.unusedVariables false
section
namespace Go.Hs
open Go.Proofs
set_option maxRecDepth 10000
theorem goN_le {names:List (List UInt8)}:∀ (l:List XN) (i:Int) (acc:List Int),(goN names l i acc).1.length≤acc.length+l.length
 | [],i,acc=>Nat.le_refl _
 | n::r,i,acc=>by
  rw [goN]
  split
  ·exact Nat.zero_le _
  ·have:=goN_le (names:=names) r (i+1) (acc++[kindN names n acc])
   simp only [List.length_append,List.length_cons,List.length_nil] at this ⊢
   omega
theorem kindsP_le {names:List (List UInt8)} {l:List XN}:(kindsP names l).1.length≤l.length:=by
 unfold kindsP
 split
 ·exact Nat.zero_le _
 ·have:=goN_le (names:=names) l 0 []
  simpa using this
theorem old_xns (s:Sl XN):V.Old (encSl .old 6 encXN s):=Old.enc (fun n y hy=>by
 simp only [encXN_K,V.cells,List.mem_cons,List.not_mem_nil,or_false] at hy
 rcases hy with rfl | rfl | rfl | rfl | rfl | rfl<;>first | exact .int _ _ | exact .str _) s
theorem old_strs (s:Sl (List UInt8)):V.Old (encSl .old 1 V.str s):=Old.enc (fun n y hy=>by simp [V.cells] at hy;subst hy;exact .str _) s
theorem old_u8 (s:Sl Int):V.Old (encSl .old 1 (V.int .u8) s):=Old.enc (fun n y hy=>by simp [V.cells] at hy;subst hy;exact .int _ _) s
theorem lTypesKinds (G:Nat→V) (hE:GExp G) (hGo:∀ g,(G g).Old) (s:Sl XN) (names:Sl (List UInt8)) :
  Spec Tryz.prog G 3 [.agg [encSl .old 6 encXN s],encSl .old 1 V.str names] hNone (fun v _=>v = .bool true):=by
 have hG:=hE.ok
 refine Spec.of_code' 0 97 [.tmp 4] Tryz.func3 rfl rfl rfl rfl fun X=>?_
 refine AW.seq_k fun K hK=>AW.region (by kernel_rfl) ?_
 simp -implicitDefEqProofs only[go_sem,seval,↓reduceIte]
 intro g2
 refine hK _ ?_
 clear hK K
 refine AW.seqJ (fun (_:Unit)=>st [(1,encSl .old 1 V.str names),(2,.ptr 2 g2 0)] [(2,.cells .new g2 0 [encSl .old 6 encXN s])]) (fun _=>fewT s.l names.l=true) (fun K1 hK1=>?_) ?_
 ·refine AW.seq_k fun K hK=>AW.region (by kernel_rfl) ?_
  simp -implicitDefEqProofs only[go_sem,seval,↓reduceIte]
  refine CallA.pure hG (by kernel_rfl) ?_
  simp -implicitDefEqProofs only[go_sem,seval,↓reduceIte,recol_xns]
  refine (wFew_spec G hG _ _ s names).mono ?_
  rintro _ _ rfl
  simp -implicitDefEqProofs only[go_sem,seval,↓reduceIte]
  refine hK _ ?_
  clear hK K
  cases hf:fewT s.l names.l with
  | false =>
   refine AW.condS (by simp -implicitDefEqProofs only[go_sem,seval,↓reduceIte];rfl) (fun h22=>?_) (fun h22=>?_)
   ·refine AW.seq_k fun K hK=>AW.region (by kernel_rfl) ?_
    simp -implicitDefEqProofs only[go_sem,seval,↓reduceIte]
    refine CallA.pure hG (by kernel_rfl) ?_
    simp -implicitDefEqProofs only[go_sem,seval,↓reduceIte,List.map_nil]
    refine (wWorks_spec G hE).mono ?_
    rintro _ _ rfl
    simp -implicitDefEqProofs only[go_sem,seval,↓reduceIte]
    refine hK _ ?_
    clear hK K
    refine AW.ret ?_
    simp -implicitDefEqProofs only[go_sem,seval,↓reduceIte]
    refine endK_some ?_
    rfl
   ·cases h22
  | true =>
   refine AW.condS (by simp -implicitDefEqProofs only[go_sem,seval,↓reduceIte];rfl) (fun h22=>?_) (fun h22=>?_)
   ·cases h22
   refine AW.skip ?_
   simp -implicitDefEqProofs only[go_sem,seval,↓reduceIte]
   exact hK1 _ () hf (Weak.st (by simp -implicitDefEqProofs only[go_sem,seval,↓reduceIte];try rfl) (by simp -implicitDefEqProofs only[go_sem,seval,↓reduceIte];try rfl))
 rintro _ hf
 obtain ⟨hl1,hl2,hl3,hl4⟩:=fewT_true hf
 have hs:s.l.length<1000000:=by omega
 have hnm:∀ n∈s.l,n.name.length<100000:=fun n hn=>by have:=hl4 n hn;omega
 have hnl:names.l.length<1000000:=by omega
 have hle:=kindsP_le (names:=names.l) (l:=s.l)
 have hR:=fun c c1=>r9Kinds_spec G hG c c1 (grownS s.l) names (by rw [grownS_l];exact hs) (by rw [grownS_l];exact hnm) hnl
 have hRo:=fun c c1=>r9Of_spec G hG c c1 (grownS s.l) names (by rw [grownS_l];exact hs) (by rw [grownS_l];exact hnm) hnl
 have hT:=fun c c1=>tKinds_spec G hE c c1 s names hs hnm hnl
 have hTo:=fun c c1=>tOf_spec G hE c c1 s names hs hnm hnl
 simp only [grownS_l] at hR hRo
 generalize kindsP names.l s.l=p at hle hR hT
 generalize ofTP names.l s.l=o at hRo hTo
 obtain ⟨W,wi,we⟩:=p
 obtain ⟨o1,o2,o3⟩:=o
 simp only at hle
 refine AW.seq_k fun K hK=>AW.region (by kernel_rfl) ?_
 simp -implicitDefEqProofs only[go_sem,seval,↓reduceIte]
 refine CallA.pure hG (by kernel_rfl) ?_
 simp -implicitDefEqProofs only[go_sem,seval,↓reduceIte,recol_xns]
 refine (wRef_spec G hG _ s hs).mono ?_
 rintro _ _ rfl
 simp -implicitDefEqProofs only[go_sem,seval,↓reduceIte,encXs,recol_xns]
 refine CallA.pure hG (by kernel_rfl) ?_
 simp -implicitDefEqProofs only[go_sem,seval,↓reduceIte,recol_xns]
 refine (hR _ _).mono ?_
 rintro _ _ rfl
 simp -implicitDefEqProofs only[go_sem,seval,↓reduceIte,encKr,encKs,recol_ks]
 refine hK _ ?_
 clear hK K
 refine AW.weak (Weak.stF (fun _=>false) (l:=[(1,encSl .old 1 V.str names),(2,.ptr 2 g2 0),(5,encSl .new 1 (V.int .u8) (grownS W)),(6,.int .i64 wi),(7,.int .i64 we)]) (m:=[(2,.cells .new g2 0 [encSl .old 6 encXN s])]) ?_ ?_) ?_
 ·simp -implicitDefEqProofs only[go_sem,seval,↓reduceIte]
  exact ⟨Fz.same _,Fz.same _,Fz.same _,Fz.same _,Fz.same _⟩
 ·simp only [allFzO_cons,allFzO_nil,and_true]
  exact FzO.keep rfl (by simp -implicitDefEqProofs only[go_sem,seval,↓reduceIte])
 refine AW.rebase hG fun X1 H1 hb1 hI1=>?_
 simp -implicitDefEqProofs only[go_sem,seval,↓reduceIte,List.map_cons,List.map_nil,recol_cells,recol_ptr,recol_xns,recol_ks]
 refine AW.weak (Weak.stF (fun _=>false) (l:=[(1,encSl .old 1 V.str names),(2,.ptr 2 g2 0),(5,encSl .old 1 (V.int .u8) (grownS W)),(6,.int .i64 wi),(7,.int .i64 we)]) (m:=[(2,.cells .old g2 0 [encSl .old 6 encXN s])]) ?_ ?_) ?_
 ·simp -implicitDefEqProofs only[go_sem,seval,↓reduceIte]
  exact ⟨Fz.same _,Fz.same _,Fz.same _,Fz.same _,Fz.same _⟩
 ·simp only [allFzO_cons,allFzO_nil,and_true]
  exact FzO.keep rfl (by simp -implicitDefEqProofs only[go_sem,seval,↓reduceIte])
 refine AW.seq_k fun K2 hK2=>?_
 refine AW.seq_k fun K hK=>AW.region (by kernel_rfl) ?_
 simp -implicitDefEqProofs only[go_sem,seval,↓reduceIte]
 refine hK _ ?_
 clear hK K
 refine AW.block ?_
 refine AW.for 2 (fun k (_:Unit)=>st [(1,encSl .old 1 V.str names),(2,.ptr 2 g2 0),(5,encSl .old 1 (V.int .u8) (grownS W)),(6,.int .i64 wi),(7,.int .i64 we),(8,.int .i64 k)] [(2,.cells .old g2 0 [encSl .old 6 encXN s])])
  (fun _ _=>True) 0 () (Nat.zero_le _) trivial (Weak.st (by simp -implicitDefEqProofs only[go_sem,seval,↓reduceIte];try rfl) (by simp -implicitDefEqProofs only[go_sem,seval,↓reduceIte];try rfl)) ?_
 intro k _ hk _ L3 hL3
 refine AW.seq_k fun K4 hK4=>?_
 refine AW.seq_k fun K hK=>AW.region (by kernel_rfl) ?_
 simp -implicitDefEqProofs only[go_sem,seval,↓reduceIte]
 refine hK _ ?_
 clear hK K
 refine AW.condS (by simp -implicitDefEqProofs only[go_sem,seval,↓reduceIte];rfl) (fun h33=>?_) (fun h33=>?_)
 ·have hk1:k<2:=by have:decide ((k:Int)<2)=true:=h33;simp at this;omega
  refine AW.skip ?_
  simp -implicitDefEqProofs only[go_sem,seval,↓reduceIte]
  refine hK4 _ ?_
  refine AW.seq_k fun K5 hK5=>?_
  refine AW.block ?_
  refine AW.seq_k fun K hK=>AW.region (by kernel_rfl) ?_
  simp -implicitDefEqProofs only[go_sem,seval,↓reduceIte]
  refine CallA.pure hG (by kernel_rfl) ?_
  simp -implicitDefEqProofs only[go_sem,seval,↓reduceIte,recol_xns]
  refine (hT _ _).mono ?_
  rintro _ _ rfl
  simp -implicitDefEqProofs only[go_sem,seval,↓reduceIte,encKr,encKs,recol_ks]
  refine hK _ ?_
  clear hK K
  refine AW.seq_k fun K6 hK6=>?_
  refine AW.seq_k fun K hK=>AW.region (by kernel_rfl) ?_
  simp -implicitDefEqProofs only[go_sem,seval,↓reduceIte]
  refine CallA.pure hG (by kernel_rfl) ?_
  simp -implicitDefEqProofs only[go_sem,seval,↓reduceIte,recol_ks]
  refine (wKinds_spec G hG _ _ (grownS W) (grownS W) (by rw [grownS_l];omega)).mono ?_
  rintro _ _ rfl
  have hb1':((grownS W).l==(grownS W).l)=true:=by simp
  have hb2:(wi != wi)=false:=by simp
  have hb3:(we != we)=false:=by simp
  simp -implicitDefEqProofs only[go_sem,seval,↓reduceIte,hb1',hb2,hb3]
  refine hK _ ?_
  clear hK K
  refine AW.condS (by simp -implicitDefEqProofs only[go_sem,seval,↓reduceIte];rfl) (fun h56=>?_) (fun h56=>?_)
  ·cases h56
  refine AW.skip ?_
  simp -implicitDefEqProofs only[go_sem,seval,↓reduceIte]
  refine hK6 _ ?_
  refine AW.seq_k fun K hK=>AW.region (by kernel_rfl) ?_
  simp -implicitDefEqProofs only[go_sem,seval,↓reduceIte]
  refine hK _ ?_
  clear hK K
  refine AW.block ?_
  refine AW.while (fun (y:Sl Int × Nat)=>st [(1,encSl .old 1 V.str names),(2,.ptr 2 g2 0),(5,encSl .old 1 (V.int .u8) (grownS W)),(6,.int .i64 wi),(7,.int .i64 we),(8,.int .i64 k),(9,encSl .new 1 (V.int .u8) y.1),(12,.int .i64 y.2)] [(2,.cells .old g2 0 [encSl .old 6 encXN s])])
   (fun y=>y.1.l.length≤60∧y.2≤60) (fun y=>61-y.2) (grownS W,0) ⟨by show (grownS W).l.length≤60;rw [grownS_l];omega,Nat.zero_le _⟩ (Weak.st (by simp -implicitDefEqProofs only[go_sem,seval,↓reduceIte];try rfl) (by simp -implicitDefEqProofs only[go_sem,seval,↓reduceIte];try rfl)) ?_
  rintro ⟨y,i⟩ ⟨hy,hi⟩ L7 hL7
  replace hy:y.l.length≤60:=hy
  replace hi:i≤60:=hi
  refine AW.seq_k fun K8 hK8=>?_
  refine AW.seq_k fun K hK=>AW.region (by kernel_rfl) ?_
  simp -implicitDefEqProofs only[go_sem,seval,↓reduceIte]
  refine hK _ ?_
  clear hK K
  refine AW.condS (by simp -implicitDefEqProofs only[go_sem,seval,↓reduceIte];rfl) (fun h60=>?_) (fun h60=>?_)
  ·have hi1:i<y.l.length:=by simpa using h60
   have hg:=List.getElem?_eq_getElem hi1
   refine AW.skip ?_
   simp -implicitDefEqProofs only[go_sem,seval,↓reduceIte]
   refine hK8 _ ?_
   refine AW.seq_k fun K9 hK9=>?_
   refine AW.block ?_
   refine AW.storeN [(1,encSl .old 1 V.str names),(2,.ptr 2 g2 0),(5,encSl .old 1 (V.int .u8) (grownS W)),(6,.int .i64 wi),(7,.int .i64 we),(8,.int .i64 k),(12,.int .i64 i)] [(2,.cells .old g2 0 [encSl .old 6 encXN s])] [(9,shNums .u8 60)] hb1 hI1 hGo (by intro p hp;simp at hp;subst hp;exact fun i _=>trivial) (by kernel_rfl) (by kernel_rfl) rfl ?_ ?_ ?_
   ·simp -implicitDefEqProofs only[go_sem,seval,↓reduceIte]
    exact ⟨old_strs _,.ptr _ _ _,old_u8 _,.int _ _,.int _ _,.int _ _,.int _ _⟩
   ·simp -implicitDefEqProofs only[go_sem,seval,↓reduceIte]
    simp only [List.mem_singleton,forall_eq]
    exact old_xns s
   simp -implicitDefEqProofs only[go_sem,seval,↓reduceIte,List.dropLast,hg]
   refine ⟨⟨_,rfl,rfl,by kernel_rfl,⟨rfl,trivial⟩,by decide⟩,shNums_of hy,?_⟩
   rintro _ ⟨v,_,rfl,hv,rfl⟩
   obtain ⟨y2,rfl,hy2⟩:=shNums_to hv
   simp -implicitDefEqProofs only[go_sem,seval,↓reduceIte]
   refine hK9 _ ?_
   refine AW.region (by kernel_rfl) ?_
   simp -implicitDefEqProofs only[go_sem,seval,↓reduceIte]
   exact hL7 _ ⟨(y2,i+1),by show 61-(i+1)<61-i;omega,⟨hy2,by show i+1≤60;omega⟩,Weak.st (by simp -implicitDefEqProofs only[go_sem,seval,↓reduceIte];exact congrArg _ (w64 (by omega) (by omega))) (by simp -implicitDefEqProofs only[go_sem,seval,↓reduceIte];try rfl)⟩
  ·refine AW.exit ?_
   simp -implicitDefEqProofs only[go_sem,seval,↓reduceIte]
   refine hK5 _ ?_
   refine AW.region (by kernel_rfl) ?_
   simp -implicitDefEqProofs only[go_sem,seval,↓reduceIte]
   exact hL3 _ ⟨hk1,(),trivial,Weak.st (by simp -implicitDefEqProofs only[go_sem,seval,↓reduceIte];exact congrArg _ (w64 (by omega) (by omega))) (by simp -implicitDefEqProofs only[go_sem,seval,↓reduceIte];try rfl)⟩
 refine AW.exit ?_
 simp -implicitDefEqProofs only[go_sem,seval,↓reduceIte]
 refine hK2 _ ?_
 refine AW.seq_k fun K hK=>AW.region (by kernel_rfl) ?_
 simp -implicitDefEqProofs only[go_sem,seval,↓reduceIte]
 refine CallA.pure hG (by kernel_rfl) ?_
 simp -implicitDefEqProofs only[go_sem,seval,↓reduceIte,recol_xns]
 refine (hTo _ _).mono ?_
 rintro _ _ rfl
 simp -implicitDefEqProofs only[go_sem,seval,↓reduceIte,encO3]
 refine hK _ ?_
 clear hK K
 refine AW.seq_k fun K hK=>AW.region (by kernel_rfl) ?_
 simp -implicitDefEqProofs only[go_sem,seval,↓reduceIte]
 refine CallA.pure hG (by kernel_rfl) ?_
 simp -implicitDefEqProofs only[go_sem,seval,↓reduceIte,recol_xns]
 refine (wRef_spec G hG _ s hs).mono ?_
 rintro _ _ rfl
 simp -implicitDefEqProofs only[go_sem,seval,↓reduceIte,encXs,recol_xns]
 refine CallA.pure hG (by kernel_rfl) ?_
 simp -implicitDefEqProofs only[go_sem,seval,↓reduceIte,recol_xns]
 refine (hRo _ _).mono ?_
 rintro _ _ rfl
 simp -implicitDefEqProofs only[go_sem,seval,↓reduceIte,encO3]
 refine hK _ ?_
 clear hK K
 have e1:(o1==o1)=true:=by simp
 have e2:(o2==o2)=true:=by simp
 have e3:(o3==o3)=true:=by simp
 refine AW.seq_k fun K hK=>AW.region (by kernel_rfl) ?_
 simp -implicitDefEqProofs only[go_sem,seval,↓reduceIte,e1,e2,e3]
 refine CallA.pure hG (by kernel_rfl) ?_
 simp -implicitDefEqProofs only[go_sem,seval,↓reduceIte,List.map_nil]
 refine (wWorks_spec G hE).mono ?_
 rintro _ _ rfl
 simp -implicitDefEqProofs only[go_sem,seval,↓reduceIte]
 refine hK _ ?_
 clear hK K
 refine AW.ret ?_
 simp -implicitDefEqProofs only[go_sem,seval,↓reduceIte]
 refine endK_some ?_
 rfl
end Go.Hs
end

section
namespace Go.Hs
theorem goX_ok {names:List (List UInt8)}:∀ (l:List X) (i:Int) (acc:List Int),(goX names l i acc).2.2=0→(∀ y∈l,kindX names y≠0)∧goX names l i acc=(acc++l.map (kindX names),0,0)
 | [],i,acc,_=>⟨fun y hy=>(by cases hy),by simp [goX]⟩
 | y::r,i,acc,h=>by
  rw [goX] at h ⊢
  by_cases h1:kindX names y=0
  ·rw [if_pos h1] at h;cases h
  ·rw [if_neg h1] at h ⊢
   obtain ⟨h2,h3⟩:=goX_ok r (i+1) _ h
   refine ⟨fun z hz=>?_,by rw [h3];simp⟩
   cases hz with
   | head=>exact h1
   | tail _ hz=>exact h2 z hz
theorem goX_all {names:List (List UInt8)}:∀ (l:List X) (i:Int) (acc:List Int),(∀ y∈l,kindX names y≠0)→goX names l i acc=(acc++l.map (kindX names),0,0)
 | [],i,acc,_=>by simp [goX]
 | y::r,i,acc,h=>by
  rw [goX,if_neg (h y (by simp)),goX_all r _ _ fun z hz=>h z (by simp [hz])]
  simp
theorem goX_none {names:List (List UInt8)}:∀ (l:List X) (i:Int) (acc:List Int),(∃ y∈l,kindX names y=0)→(goX names l i acc).1=[]∧(goX names l i acc).2.2=90
 | [],i,acc,h=>by obtain ⟨y,hy,_⟩:=h;cases hy
 | y::r,i,acc,h=>by
  rw [goX]
  by_cases h1:kindX names y=0
  ·rw [if_pos h1];exact ⟨rfl,rfl⟩
  ·rw [if_neg h1]
   refine goX_none r _ _ ?_
   obtain ⟨z,hz,hz2⟩:=h
   cases hz with
   | head=>exact absurd hz2 h1
   | tail _ hz=>exact ⟨z,hz,hz2⟩
theorem mem_subs {x y:X} (h:y∈subs x):∃ b,Sub x y b:=by
 obtain ⟨i,hi,e⟩:=List.mem_iff_getElem.1 h
 obtain ⟨z,b,h1,h2,h3,h4⟩:=sub_at x i (by rw [← subs_len];exact hi)
 rw [List.getElem?_eq_getElem hi,e] at h3
 cases h3
 exact ⟨b,h1⟩
theorem Sub.mem {x y:X} {b:Nat} (h:Sub x y b):y∈subs x:=List.mem_of_getElem? h.get
def shiftN (b:Int) (n:XN):XN:={ n with a:=max (-1) (n.a-b),b:=max (-1) (n.b-b),c:=max (-1) (n.c-b) }
theorem row_shift:∀ (y:X) (b c:Int),0≤b→0≤c→(y.row (b+c)).map (shiftN b)=y.row c
 | .leaf op num name,b,c,hb,hc=>by
  have:max (-1) (-1-b)=(-1:Int):=by omega
  simp only [X.row,List.map_cons,List.map_nil,shiftN,this]
 | .un op a,b,c,hb,hc=>by
  have e1:max (-1) (-1-b)=(-1:Int):=by omega
  have hp:=a.size_pos
  have e2:max (-1) (b+c+a.size-1-b)=c+a.size-1:=by omega
  simp only [X.row,List.map_append,List.map_cons,List.map_nil,shiftN,e1,e2,row_shift a b c hb hc]
 | .bin op x y,b,c,hb,hc=>by
  have e1:max (-1) (-1-b)=(-1:Int):=by omega
  have hp:=x.size_pos
  have hp2:=y.size_pos
  have e2:max (-1) (b+c+x.size-1-b)=c+x.size-1:=by omega
  have e3:max (-1) (b+c+x.size+y.size-1-b)=c+x.size+y.size-1:=by omega
  have i2:=row_shift y b (c+x.size) hb (by omega)
  rw [← Int.add_assoc] at i2
  simp only [X.row,List.map_append,List.map_cons,List.map_nil,shiftN,e1,e2,e3,row_shift x b c hb hc,i2]
 | .ite x y z,b,c,hb,hc=>by
  have hp:=x.size_pos
  have hp2:=y.size_pos
  have hp3:=z.size_pos
  have e2:max (-1) (b+c+x.size-1-b)=c+x.size-1:=by omega
  have e3:max (-1) (b+c+x.size+y.size-1-b)=c+x.size+y.size-1:=by omega
  have e4:max (-1) (b+c+x.size+y.size+z.size-1-b)=c+x.size+y.size+z.size-1:=by omega
  have i2:=row_shift y b (c+x.size) hb (by omega)
  rw [← Int.add_assoc] at i2
  have i3:=row_shift z b (c+x.size+y.size) hb (by omega)
  rw [← Int.add_assoc,← Int.add_assoc] at i3
  simp only [X.row,List.map_append,List.map_cons,List.map_nil,shiftN,e2,e3,e4,row_shift x b c hb hc,i2,i3]
theorem Sub.shift {x y:X} {b:Nat} (h:Sub x y b):(((x.row 0).drop b).take y.size).map (shiftN b)=y.row 0:=by
 obtain ⟨pre,post,e,hb⟩:=h.at (At.whole x)
 rw [Nat.zero_add] at hb e
 have hl:(y.row ((b:Nat):Int)).length=y.size:=y.row_len _
 have ht:((x.row 0).drop b).take y.size=y.row (b:Nat):=by
  rw [e,List.append_assoc,← hb,List.drop_left,← hl,hb,List.take_left]
 rw [ht]
 have:=row_shift y b 0 (by omega) (by omega)
 rw [Int.add_zero] at this
 exact this
end Go.Hs
end

section
namespace Go.Hs
open Go.Proofs
set_option maxRecDepth 10000
theorem checkP_row {x:X} (h:x.ok=true):checkP (x.row 0)=if x.depth > 64 then 3 else 0:=by
 have hd:=depth_row h
 have hp:=x.depth_pos
 unfold checkP
 rw [hd,if_neg (by omega)]
 by_cases h2:x.depth > 64
 ·rw [if_pos (by omega),if_pos h2]
 ·rw [if_neg (by omega),if_neg h2]
theorem kindsP_row {names:List (List UInt8)} {x:X} (h:x.ok=true) (hc:checkP (x.row 0)=0):kindsP names (x.row 0)=goX names (subs x) 0 []:=by
 unfold kindsP
 rw [if_neg (by simpa using hc)]
 have:=goN_goX (names:=names) x x.size 0 (by omega)
 simp only [List.drop_zero,List.take_zero,List.map_nil] at this
 exact this
theorem kindsP_tree {names:List (List UInt8)} {l:List XN} (h:(kindsP names l).2.2=0):∃ x:X,x.ok=true∧l=x.row 0∧checkP (x.row 0)=0∧(∀ y∈subs x,kindX names y≠0)∧kindsP names l=((subs x).map (kindX names),0,0):=by
 have hc:checkP l=0:=by
  unfold kindsP at h
  by_cases hc:checkP l=0
  ·exact hc
  ·rw [if_pos hc] at h;exact absurd h hc
 have hdep:depthP l≠0:=by
  intro hd
  rw [checkP,if_pos hd] at hc
  cases hc
 obtain ⟨x,hx,rfl⟩:=depth_none hdep
 rw [kindsP_row hx hc] at h ⊢
 obtain ⟨h1,h2⟩:=goX_ok _ _ _ h
 exact ⟨x,hx,rfl,hc,h1,h2⟩
theorem kindsP_bad {names:List (List UInt8)} {l:List XN} (h:(kindsP names l).2.2≠0):(kindsP names l).1=[]:=by
 unfold kindsP at h ⊢
 by_cases hc:checkP l=0
 ·rw [if_neg (by simpa using hc)] at h ⊢
  have key:∀ (l:List XN) (i:Int) (acc:List Int),(goN names l i acc).2.2≠0→(goN names l i acc).1=[]:=by
   intro l
   induction l with
   | nil=>intro i acc h;exact absurd rfl h
   | cons n r ih =>
    intro i acc h
    rw [goN] at h ⊢
    split
    ·rfl
    ·rename_i h1
     rw [if_neg h1] at h
     exact ih _ _ h
  exact key _ _ _ h
 ·rw [if_pos hc]
theorem part_ok {names:List (List UInt8)} {x y:X} {b:Nat} (hx:x.ok=true) (hc:checkP (x.row 0)=0) (hk:∀ y∈subs x,kindX names y≠0) (h:Sub x y b):ofTP names (y.row 0)=(kindX names y,0,0):=by
 have hy:=h.ok hx
 have hcy:checkP (y.row 0)=0:=by
  rw [checkP_row hx] at hc
  rw [checkP_row hy]
  have:=h.depth
  by_cases h2:x.depth > 64
  ·rw [if_pos h2] at hc;cases hc
  ·rw [if_neg (by omega)]
 have hg:kindsP names (y.row 0)=((subs y).map (kindX names),0,0):=by
  rw [kindsP_row hy hcy,goX_all _ _ _ fun z hz=>?_]
  ·rfl
  ·obtain ⟨c,hc2⟩:=mem_subs hz
   exact hk z (h.trans hc2).mem
 unfold ofTP
 rw [hg,if_neg (by simp)]
 have hl:((subs y).map (kindX names)).length=y.size:=by rw [List.length_map,subs_len]
 show (((subs y).map (kindX names)).getD (((subs y).map (kindX names)).length-1) 0,(0:Int),(0:Int))=_
 rw [hl,List.getD_eq_getElem?_getD,List.getElem?_map,subs_top];rfl
theorem kPick_spec (G:Nat→V) (hG:GOk G) (a n:Int) (ha:InK .i64 a) (hn:0<n∧n<1000000):Spec Tryz.prog G 22 [.int .i64 a,.int .i64 n] hNone (fun v _=>∃ i:Int,v = .int .i64 i∧0≤i∧i<n):=by
 refine Spec.of_code' 0 14 [.tmp 4] Tryz.func22 rfl rfl rfl rfl fun X=>?_
 refine AW.seq_k fun K hK=>AW.region (by kernel_rfl) ?_
 simp -implicitDefEqProofs only[go_sem,seval,↓reduceIte]
 refine hK _ ?_
 clear hK K
 refine AW.seq_k fun K1 hK1=>?_
 refine AW.seq_k fun K hK=>AW.region (by kernel_rfl) ?_
 simp -implicitDefEqProofs only[go_sem,seval,↓reduceIte]
 refine hK _ ?_
 clear hK K
 have q1:decide (n≤0)=false:=by rw [decide_eq_false_iff_not];omega
 refine AW.condS (by simp -implicitDefEqProofs only[go_sem,seval,↓reduceIte];rfl) (fun h6=>?_) (fun h6=>?_)
 ·rw [q1] at h6;cases h6
 refine AW.skip ?_
 simp -implicitDefEqProofs only[go_sem,seval,↓reduceIte]
 refine hK1 _ ?_
 have hn0:¬ n=0:=by omega
 have b1 : -n<a.tmod n:=by
  have:=Int.lt_tmod_of_pos a hn.1
  omega
 have b2:a.tmod n<n:=Int.tmod_lt_of_pos a hn.1
 have hw:IntKind.i64.wrap (a.tmod n+n)=a.tmod n+n:=w64 (by omega) (by omega)
 refine AW.seq_k fun K hK=>AW.region (by kernel_rfl) ?_
 simp -implicitDefEqProofs only[go_sem,seval,↓reduceIte,hn0,hw]
 refine hK _ ?_
 clear hK K
 refine AW.ret ?_
 simp -implicitDefEqProofs only[go_sem,seval,↓reduceIte]
 refine endK_some ?_
 have b3:0≤a.tmod n+n:=by omega
 exact ⟨_,rfl,Int.tmod_nonneg _ b3,Int.tmod_lt_of_pos _ hn.1⟩
end Go.Hs
end

section
namespace Go.Hs
theorem kd_named {op:Int} (h:op≠2) (nm nm':Bool) (a b c:Int):kd op nm a b c=kd op nm' a b c:=by
 unfold kd
 simp [h]
theorem kd_two (nm:Bool) (a b c:Int):kd 2 nm a b c=if nm=true then 1 else 0:=by
 unfold kd
 cases nm<;>simp
def NmIn (x:X) (t:List UInt8):Prop:=∃ num,X.leaf 2 num t∈subs x
theorem kindX_congr {N M:List (List UInt8)}:∀ x:X,(∀ t,NmIn x t→N.contains t=M.contains t)→x.ok=true→kindX N x=kindX M x
 | .leaf op num name,h,_=>by
  rw [kindX,kindX]
  by_cases h2:op=2
  ·subst h2;rw [h name ⟨num,by simp [subs]⟩]
  ·exact kd_named h2 _ _ _ _ _
 | .un op a,h,hx=>by
  simp only [X.ok,Bool.and_eq_true,decide_eq_true_eq] at hx
  rw [kindX,kindX,kindX_congr a (fun t ⟨n,q⟩=>h t ⟨n,by simp [subs,q]⟩) hx.2]
  exact kd_named (by omega) _ _ _ _ _
 | .bin op a b,h,hx=>by
  simp only [X.ok,Bool.and_eq_true,decide_eq_true_eq] at hx
  rw [kindX,kindX,kindX_congr a (fun t ⟨n,q⟩=>h t ⟨n,by simp [subs,q]⟩) hx.1.2,kindX_congr b (fun t ⟨n,q⟩=>h t ⟨n,by simp [subs,q]⟩) hx.2]
  exact kd_named (by omega) _ _ _ _ _
 | .ite a b c,h,hx=>by
  simp only [X.ok,Bool.and_eq_true] at hx
  rw [kindX,kindX,kindX_congr a (fun t ⟨n,q⟩=>h t ⟨n,by simp [subs,q]⟩) hx.1.1,kindX_congr b (fun t ⟨n,q⟩=>h t ⟨n,by simp [subs,q]⟩) hx.1.2,kindX_congr c (fun t ⟨n,q⟩=>h t ⟨n,by simp [subs,q]⟩) hx.2]
  exact kd_named (by decide) _ _ _ _ _
theorem NmIn.sub {x y:X} {b:Nat} (h:Sub x y b) {t:List UInt8} (ht:NmIn y t):NmIn x t:=by
 obtain ⟨n,q⟩:=ht
 obtain ⟨c,hc⟩:=mem_subs q
 exact ⟨n,(h.trans hc).mem⟩
theorem named_of {N:List (List UInt8)} {x:X} (h:∀ y∈subs x,kindX N y≠0) {t:List UInt8} (ht:NmIn x t):N.contains t=true:=by
 obtain ⟨n,q⟩:=ht
 have:=h _ q
 rw [kindX,kd_two] at this
 by_cases hc:N.contains t=true
 ·exact hc
 ·rw [if_neg hc] at this;exact absurd rfl this
theorem kinds_more {N M:List (List UInt8)} {x:X} (hx:x.ok=true) (h:∀ y∈subs x,kindX N y≠0) (hM:∀ t,NmIn x t→M.contains t=true):∀ y∈subs x,kindX M y=kindX N y:=by
 intro y hy
 obtain ⟨b,hb⟩:=mem_subs hy
 refine kindX_congr y (fun t ht=>?_) (hb.ok hx)
 rw [hM t (ht.sub hb),named_of h (ht.sub hb)]
def addNm (acc:List (List UInt8)) (n:XN):List (List UInt8):=if n.op=2∧acc.contains n.name=false then acc++[n.name] else acc
def namesL (l:List XN):List (List UInt8):=l.foldl addNm []
theorem addNm_mem {acc:List (List UInt8)} {n:XN} {t:List UInt8}:t∈addNm acc n ↔ t∈acc∨n.op=2∧n.name=t:=by
 unfold addNm
 by_cases h:n.op=2∧acc.contains n.name=false
 ·rw [if_pos h]
  simp only [List.mem_append,List.mem_singleton]
  constructor
  ·rintro (q | q)
   ·exact .inl q
   ·exact .inr ⟨h.1,q.symm⟩
  ·rintro (q | ⟨_,q⟩)
   ·exact .inl q
   ·exact .inr q.symm
 ·rw [if_neg h]
  refine ⟨.inl,?_⟩
  rintro (q | ⟨q1,q⟩)
  ·exact q
  ·by_cases hc:acc.contains n.name=true
   ·rw [← q];simpa using hc
   ·exact absurd ⟨q1,by simpa using hc⟩ h
theorem addNm_nodup {acc:List (List UInt8)} {n:XN} (h:acc.Nodup):(addNm acc n).Nodup:=by
 unfold addNm
 split
 ·rename_i q
  rw [List.nodup_append]
  refine ⟨h,by simp,?_⟩
  intro a ha b hb
  rw [List.mem_singleton] at hb
  subst hb
  rintro rfl
  have:=q.2
  rw [List.contains_eq_mem] at this
  simp at this
  exact this ha
 ·exact h
theorem foldNm_mem {t:List UInt8}:∀ (l:List XN) (acc:List (List UInt8)),t∈l.foldl addNm acc ↔ t∈acc∨∃ n∈l,n.op=2∧n.name=t
 | [],acc=>by simp
 | n::r,acc=>by
  rw [List.foldl_cons,foldNm_mem r,addNm_mem]
  constructor
  ·rintro ((h | h) | ⟨m,h1,h2⟩)
   ·exact .inl h
   ·exact .inr ⟨n,by simp,h⟩
   ·exact .inr ⟨m,by simp [h1],h2⟩
  ·rintro (h | ⟨m,h1,h2⟩)
   ·exact .inl (.inl h)
   ·cases h1 with
    | head=>exact .inl (.inr h2)
    | tail _ h1=>exact .inr ⟨m,h1,h2⟩
theorem foldNm_nodup:∀ (l:List XN) (acc:List (List UInt8)),acc.Nodup→(l.foldl addNm acc).Nodup
 | [],acc,h=>h
 | n::r,acc,h=>foldNm_nodup r _ (addNm_nodup h)
theorem addNm_len (acc:List (List UInt8)) (n:XN):(addNm acc n).length≤acc.length+1:=by
 unfold addNm;split<;>simp
theorem foldNm_len:∀ (l:List XN) (acc:List (List UInt8)),(l.foldl addNm acc).length≤acc.length+l.length
 | [],acc=>by simp
 | n::r,acc=>by
  rw [List.foldl_cons]
  have:=foldNm_len r (addNm acc n)
  have:=addNm_len acc n
  simp only [List.length_cons];omega
theorem namesL_take {l:List XN} {k:Nat} {n:XN} (h:l[k]? = some n):namesL (l.take (k+1))=addNm (namesL (l.take k)) n:=by
 unfold namesL
 rw [List.take_add_one,h,List.foldl_append];rfl
theorem names_tree {x:X} (hx:x.ok=true) {t:List UInt8}:t∈namesL (x.row 0) ↔ NmIn x t:=by
 unfold namesL
 rw [foldNm_mem]
 constructor
 ·rintro (h | ⟨n,h1,h2,h3⟩)
  ·cases h
  ·obtain ⟨i,hi,e⟩:=List.mem_iff_getElem.1 h1
   obtain ⟨y,b,q1,q2,q3,q4⟩:=sub_at x i (by rw [← X.row_len x 0];exact hi)
   rw [List.getElem?_eq_getElem hi,e] at q4
   cases q4
   cases y with
   | leaf op num name =>
    simp only [X.top] at h2 h3
    subst h2;subst h3
    exact ⟨num,q1.mem⟩
   | un op a =>
    have:=q1.ok hx
    simp only [X.ok,Bool.and_eq_true,decide_eq_true_eq] at this
    simp only [X.top] at h2;omega
   | bin op a c =>
    have:=q1.ok hx
    simp only [X.ok,Bool.and_eq_true,decide_eq_true_eq] at this
    simp only [X.top] at h2;omega
   | ite a c d=>simp only [X.top] at h2;exact absurd h2 (by decide)
 ·rintro ⟨num,h⟩
  obtain ⟨b,hb⟩:=mem_subs h
  refine .inr ⟨_,List.mem_of_getElem? hb.top,?_,?_⟩<;>rfl
end Go.Hs
end

section
namespace Go.Hs
open Go.Proofs
set_option maxRecDepth 10000
theorem ofTP_tree {N:List (List UInt8)} {x:X} (hx:x.ok=true) (hc:checkP (x.row 0)=0) (h:∀ y∈subs x,kindX N y≠0):ofTP N (x.row 0)=(kindX N x,0,0) :=
 part_ok hx hc h (.refl x)
theorem top_mem (x:X):x∈subs x:=(Sub.refl x).mem
theorem ofTP_with {N M:List (List UInt8)} {x:X} (hx:x.ok=true) (hc:checkP (x.row 0)=0) (h:∀ y∈subs x,kindX N y≠0) (hM:∀ t,NmIn x t→M.contains t=true):ofTP M (x.row 0)=(kindX N x,0,0):=by
 have hm:=kinds_more hx h hM
 rw [ofTP_tree hx hc fun y hy=>by rw [hm y hy];exact h y hy,hm x (top_mem x)]
theorem ofTP_append {N M:List (List UInt8)} {x:X} (hx:x.ok=true) (hc:checkP (x.row 0)=0) (h:∀ y∈subs x,kindX N y≠0):ofTP (M++N) (x.row 0)=(kindX N x,0,0) :=
 ofTP_with hx hc h fun t ht=>by
  have:=named_of h ht
  simp only [List.contains_eq_mem,List.mem_append,decide_eq_true_eq] at this ⊢
  exact .inr this
def namesP (l:List XN):List (List UInt8):=if depthP l=0 then [] else namesL l
theorem namesP_row {x:X} (hx:x.ok=true):namesP (x.row 0)=namesL (x.row 0):=by
 unfold namesP
 rw [if_neg]
 rw [depth_row hx]
 have:=x.depth_pos
 omega
theorem ofTP_own {N:List (List UInt8)} {x:X} (hx:x.ok=true) (hc:checkP (x.row 0)=0) (h:∀ y∈subs x,kindX N y≠0):ofTP (namesP (x.row 0)) (x.row 0)=(kindX N x,0,0) :=
 ofTP_with hx hc h fun t ht=>by
  rw [namesP_row hx]
  have:=(names_tree hx).2 ht
  simpa using this
theorem less_not {l:List (List UInt8)} (h:l.Nodup) {i:Nat} {t:List UInt8} (hi:l[i]? = some t):t ∉ l.take i++l.drop (i+1):=by
 obtain ⟨hl,e⟩:=List.getElem?_eq_some_iff.1 hi
 have hs:l=l.take i++(t::l.drop (i+1)):=by
  rw [← e];simp
 rw [hs] at h
 rw [List.nodup_append] at h
 obtain ⟨h1,h2,h3⟩:=h
 intro hm
 rcases List.mem_append.1 hm with q | q
 ·exact h3 _ q _ (by simp) rfl
 ·rw [List.nodup_cons] at h2
  exact h2.1 q
theorem ofTP_less {x:X} (hx:x.ok=true) (hc:checkP (x.row 0)=0) {i:Nat} {t:List UInt8} (hi:(namesP (x.row 0))[i]? = some t):(ofTP ((namesP (x.row 0)).take i++(namesP (x.row 0)).drop (i+1)) (x.row 0)).2.2=90:=by
 have hnd:(namesP (x.row 0)).Nodup:=by rw [namesP_row hx];exact foldNm_nodup _ _ (by simp)
 have hno:=less_not hnd hi
 have hin:NmIn x t:=(names_tree hx).1 (by rw [← namesP_row hx];exact List.mem_of_getElem? hi)
 generalize (namesP (x.row 0)).take i++(namesP (x.row 0)).drop (i+1)=N at hno ⊢
 obtain ⟨num,hm⟩:=hin
 have h0:kindX N (.leaf 2 num t)=0:=by
  rw [kindX,kd_two,if_neg]
  simpa using hno
 have hb:=goX_none (names:=N) (subs x) 0 [] ⟨_,hm,h0⟩
 have hk:=kindsP_row (names:=N) hx hc
 unfold ofTP
 rw [hk,if_pos (by rw [hb.2];decide)]
 exact hb.2
theorem kindX_12 {N:List (List UInt8)} {x:X} (h:kindX N x≠0):kindX N x=1∨kindX N x=2:=by
 have:=kindX_range N x
 omega
theorem namesP_len (l:List XN):(namesP l).length≤l.length:=by
 unfold namesP
 split
 ·exact Nat.zero_le _
 ·have:=foldNm_len l []
  simpa [namesL] using this
end Go.Hs
end

section
namespace Go.Hs
open Go.Proofs
set_option maxRecDepth 10000
theorem tNames_spec (G:Nat→V) (hE:GExp G) (c:Col) (s:Sl XN) (hs:s.l.length<1000000) (hnm:∀ n∈s.l,n.name.length<100000) :
  Spec Tryz.prog G 26 [.agg [encSl c 6 encXN s]] hNone (fun v _=>v=encSl .new 1 V.str (grownS (namesP s.l))):=by
 have hG:=hE.ok
 refine Spec.of_code' 0 33 [.tmp 2] Tryz.func26 rfl rfl rfl rfl fun X=>?_
 have hP:namesP s.l=if depthP s.l=0 then [] else namesL s.l:=rfl
 have hC:checkP s.l=if depthP s.l=0 then 2 else if depthP s.l > 64 then 3 else 0:=rfl
 generalize namesP s.l=res at hP ⊢
 refine AW.seq_k fun K hK=>AW.region (by kernel_rfl) ?_
 simp -implicitDefEqProofs only[go_sem,seval,↓reduceIte]
 intro g1
 refine hK _ ?_
 clear hK K
 refine AW.seq_k fun K hK=>AW.region (by kernel_rfl) ?_
 simp -implicitDefEqProofs only[go_sem,seval,↓reduceIte]
 refine hK _ ?_
 clear hK K
 refine AW.seq_k fun K1 hK1=>?_
 refine AW.seq_k fun K hK=>AW.region (by kernel_rfl) ?_
 simp -implicitDefEqProofs only[go_sem,seval,↓reduceIte]
 refine CallA.pure hG (by kernel_rfl) ?_
 simp -implicitDefEqProofs only[go_sem,seval,↓reduceIte,recol_xns]
 refine (xCheck_spec G hE _ s hs hnm).mono ?_
 rintro _ _ rfl
 simp -implicitDefEqProofs only[go_sem,seval,↓reduceIte]
 refine hK _ ?_
 clear hK K
 by_cases hd:depthP s.l=0
 ·rw [if_pos hd] at hP hC
  rw [hC]
  refine AW.condS (by simp -implicitDefEqProofs only[go_sem,seval,↓reduceIte];rfl) (fun h8=>?_) (fun h8=>?_)
  ·refine AW.seq_k fun K hK=>AW.region (by kernel_rfl) ?_
   simp -implicitDefEqProofs only[go_sem,seval,↓reduceIte]
   refine hK _ ?_
   clear hK K
   refine AW.ret ?_
   simp -implicitDefEqProofs only[go_sem,seval,↓reduceIte]
   refine endK_some ?_
   rw [hP];rfl
  ·cases h8
 rw [if_neg hd] at hP
 have e8:(checkP s.l==2)=false:=by
  rw [hC,if_neg hd]
  split<;>rfl
 rw [e8]
 refine AW.condS (by simp -implicitDefEqProofs only[go_sem,seval,↓reduceIte];rfl) (fun h8=>?_) (fun h8=>?_)
 ·cases h8
 refine AW.skip ?_
 simp -implicitDefEqProofs only[go_sem,seval,↓reduceIte]
 refine hK1 _ ?_
 clear hC e8
 refine AW.seq_k fun K2 hK2=>?_
 refine AW.seq_k fun K hK=>AW.region (by kernel_rfl) ?_
 simp -implicitDefEqProofs only[go_sem,seval,↓reduceIte]
 refine hK _ ?_
 clear hK K
 refine AW.block ?_
 refine AW.for s.l.length (fun k (gx:Nat)=>st [(3,grown 30 gx 1 (namesL (s.l.take k))),(10,encSl c 6 encXN s),(11,.int .i64 s.l.length),(12,.int .i64 k)] [(30,grownO gx V.str (namesL (s.l.take k)))])
  (fun k _=>True) 0 0 (Nat.zero_le _) trivial (Weak.st (by simp -implicitDefEqProofs only[go_sem,seval,↓reduceIte];try rfl) (by simp -implicitDefEqProofs only[go_sem,seval,↓reduceIte];try rfl)) ?_
 intro k gx hk _ L3 hL3
 refine AW.seq_k fun K4 hK4=>?_
 refine AW.region (by kernel_rfl) ?_
 simp -implicitDefEqProofs only[go_sem,seval,↓reduceIte]
 refine hK4 _ ?_
 refine AW.seq_k fun K5 hK5=>?_
 refine AW.condS (by simp -implicitDefEqProofs only[go_sem,seval,↓reduceIte];rfl) (fun h13=>?_) (fun h13=>?_)
 ·have hk1:k<s.l.length:=by simpa using h13
  have hg:=List.getElem?_eq_getElem hk1
  have hst:=namesL_take hg
  have hlen:(namesL (s.l.take k)).length≤k:=by
   have:=foldNm_len (s.l.take k) []
   rw [List.length_take] at this
   simp only [List.length_nil,Nat.zero_add] at this
   show (List.foldl addNm [] (s.l.take k)).length≤k
   omega
  generalize s.l[k]=n at hg hst
  generalize namesL (s.l.take k)=ns at hst hlen ⊢
  have hA:addNm ns n=if n.op=2∧ns.contains n.name=false then ns++[n.name] else ns:=rfl
  refine AW.skip ?_
  simp -implicitDefEqProofs only[go_sem,seval,↓reduceIte]
  refine hK5 _ ?_
  refine AW.seq_k fun K6 hK6=>?_
  refine AW.block ?_
  refine AW.seq_k fun K hK=>AW.region (by kernel_rfl) ?_
  simp -implicitDefEqProofs only[go_sem,seval,↓reduceIte,hg,encXN_K]
  intro g5
  refine hK _ ?_
  clear hK K
  by_cases ho:n.op=2
  rotate_left
  ·have e1:(n.op==2)=false:=by simpa using ho
   rw [if_neg (fun h=>ho h.1)] at hA
   refine AW.seq_k fun K hK=>AW.region (by kernel_rfl) ?_
   simp -implicitDefEqProofs only[go_sem,seval,↓reduceIte,e1]
   refine hK _ ?_
   clear hK K
   refine AW.condS (by simp -implicitDefEqProofs only[go_sem,seval,↓reduceIte];rfl) (fun h25=>?_) (fun h25=>?_)
   ·cases h25
   refine AW.skip ?_
   simp -implicitDefEqProofs only[go_sem,seval,↓reduceIte]
   refine hK6 _ ?_
   refine AW.region (by kernel_rfl) ?_
   simp -implicitDefEqProofs only[go_sem,seval,↓reduceIte]
   refine hL3 _ ⟨hk1,gx,trivial,Weak.st (by rw [hst,hA];simp -implicitDefEqProofs only[go_sem,seval,↓reduceIte];exact congrArg _ (w64 (by omega) (by omega))) (by rw [hst,hA];simp -implicitDefEqProofs only[go_sem,seval,↓reduceIte];try rfl)⟩
  have e1:(n.op==2)=true:=by simpa using ho
  refine AW.seq_k fun K hK=>AW.region (by kernel_rfl) ?_
  simp -implicitDefEqProofs only[go_sem,seval,↓reduceIte,e1]
  refine CallA.bor hG [encSl .old 1 V.str (grownS ns),.str n.name] (by kernel_rfl) ⟨?_,Rd.im (.str _) rfl,trivial⟩ ?_
  ·exact Rd.grown (g:=gx) (f:=V.str) (f':=V.str) (by simp -implicitDefEqProofs only[go_sem,seval,↓reduceIte];try rfl) (fun _=>rfl) (fun x y hy=>by simp [V.cells] at hy;subst hy;exact .str _) (fun _=>rfl)
  refine (sContains_spec G hG _ n.name (grownS ns) (by rw [grownS_l];omega)).mono ?_
  rintro _ _ rfl
  refine ⟨.bool _,?_⟩
  rw [grownS_l]
  simp -implicitDefEqProofs only[go_sem,seval,↓reduceIte]
  refine hK _ ?_
  clear hK K
  cases hc:ns.contains n.name with
  | true =>
   rw [hc,if_neg (by simp)] at hA
   refine AW.condS (by simp -implicitDefEqProofs only[go_sem,seval,↓reduceIte];rfl) (fun h25=>?_) (fun h25=>?_)
   ·cases h25
   refine AW.skip ?_
   simp -implicitDefEqProofs only[go_sem,seval,↓reduceIte]
   refine hK6 _ ?_
   refine AW.region (by kernel_rfl) ?_
   simp -implicitDefEqProofs only[go_sem,seval,↓reduceIte]
   refine hL3 _ ⟨hk1,gx,trivial,Weak.st (by rw [hst,hA];simp -implicitDefEqProofs only[go_sem,seval,↓reduceIte];exact congrArg _ (w64 (by omega) (by omega))) (by rw [hst,hA];simp -implicitDefEqProofs only[go_sem,seval,↓reduceIte];try rfl)⟩
  | false =>
   rw [hc,if_pos ⟨ho,rfl⟩] at hA
   refine AW.condS (by simp -implicitDefEqProofs only[go_sem,seval,↓reduceIte];rfl) (fun h25=>?_) (fun h25=>?_)
   rotate_left
   ·cases h25
   refine AW.region (by kernel_rfl) ?_
   simp -implicitDefEqProofs only[go_sem,seval,↓reduceIte]
   intro g29
   refine app_grown (f:=V.str) (l:=ns) (l2:=[n.name]) (g:=gx) (fun _=>rfl) rfl rfl rfl (by simp -implicitDefEqProofs only[go_sem,seval,↓reduceIte];try rfl) (roomOk_of (by omega) (by simp;omega)) fun g2=>?_
   simp -implicitDefEqProofs only[go_sem,seval,↓reduceIte]
   refine hK6 _ ?_
   refine AW.region (by kernel_rfl) ?_
   simp -implicitDefEqProofs only[go_sem,seval,↓reduceIte]
   refine hL3 _ ⟨hk1,g2,trivial,Weak.st (by rw [hst,hA];simp -implicitDefEqProofs only[go_sem,seval,↓reduceIte];exact congrArg _ (w64 (by omega) (by omega))) (by rw [hst,hA];simp -implicitDefEqProofs only[go_sem,seval,↓reduceIte];try rfl)⟩
 ·have hk1:k=s.l.length:=by simp at h13;omega
  refine AW.exit ?_
  simp -implicitDefEqProofs only[go_sem,seval,↓reduceIte]
  refine hK2 _ ?_
  rw [hk1,List.take_length]
  refine AW.weak (Weak.stF (fun o=>o==30) (l:=[(3,encSl .new 1 V.str (grownS (namesL s.l)))]) (m:=[]) ?_ trivial) ?_
  ·simp -implicitDefEqProofs only[go_sem,seval,↓reduceIte]
   exact Fz.grown rfl rfl (fun _=>rfl)
  refine AW.seq_k fun K hK=>AW.region (by kernel_rfl) ?_
  simp -implicitDefEqProofs only[go_sem,seval,↓reduceIte]
  refine hK _ ?_
  clear hK K
  refine AW.ret ?_
  simp -implicitDefEqProofs only[go_sem,seval,↓reduceIte]
  refine endK_some ?_
  rw [hP]
end Go.Hs
end

section
namespace Go.Hs
open Go.Proofs
set_option maxRecDepth 10000
theorem r9Names_spec (G:Nat→V) (hG:GOk G) (c:Col) (s:Sl XN) (hs:s.l.length<1000000) (hnm:∀ n∈s.l,n.name.length<100000) :
  Spec Tryz.prog G 27 [encSl c 6 encXN s] hNone (fun v _=>v=encSl .new 1 V.str (grownS (namesP s.l))):=by
 refine Spec.of_code' 0 39 [.tmp 2] Tryz.func27 rfl rfl rfl rfl fun X=>?_
 have hP:namesP s.l=if depthP s.l=0 then [] else namesL s.l:=rfl
 generalize namesP s.l=res at hP ⊢
 refine AW.seq_k fun K hK=>AW.region (by kernel_rfl) ?_
 simp -implicitDefEqProofs only[go_sem,seval,↓reduceIte]
 refine hK _ ?_
 clear hK K
 refine AW.seq_k fun K hK=>AW.region (by kernel_rfl) ?_
 simp -implicitDefEqProofs only[go_sem,seval,↓reduceIte]
 refine hK _ ?_
 clear hK K
 refine AW.seq_k fun K1 hK1=>?_
 refine AW.seq_k fun K hK=>AW.region (by kernel_rfl) ?_
 simp -implicitDefEqProofs only[go_sem,seval,↓reduceIte]
 refine CallA.pure hG (by kernel_rfl) ?_
 simp -implicitDefEqProofs only[go_sem,seval,↓reduceIte,recol_xns]
 refine (rRight_spec G hG _ s hs hnm).mono ?_
 rintro _ _ rfl
 rw [right_depth]
 simp -implicitDefEqProofs only[go_sem,seval,↓reduceIte]
 refine hK _ ?_
 clear hK K
 by_cases hd:depthP s.l=0
 ·rw [if_pos hd] at hP
  have e8:decide (depthP s.l≠0)=false:=by simpa using hd
  rw [e8]
  refine AW.condS (by simp -implicitDefEqProofs only[go_sem,seval,↓reduceIte];rfl) (fun h8=>?_) (fun h8=>?_)
  ·refine AW.seq_k fun K hK=>AW.region (by kernel_rfl) ?_
   simp -implicitDefEqProofs only[go_sem,seval,↓reduceIte]
   refine hK _ ?_
   clear hK K
   refine AW.ret ?_
   simp -implicitDefEqProofs only[go_sem,seval,↓reduceIte]
   refine endK_some ?_
   rw [hP];rfl
  ·cases h8
 rw [if_neg hd] at hP
 have e8:decide (depthP s.l≠0)=true:=by simpa using hd
 rw [e8]
 refine AW.condS (by simp -implicitDefEqProofs only[go_sem,seval,↓reduceIte];rfl) (fun h8=>?_) (fun h8=>?_)
 ·cases h8
 refine AW.skip ?_
 simp -implicitDefEqProofs only[go_sem,seval,↓reduceIte]
 refine hK1 _ ?_
 clear e8
 refine AW.seq_k fun K2 hK2=>?_
 refine AW.seq_k fun K hK=>AW.region (by kernel_rfl) ?_
 simp -implicitDefEqProofs only[go_sem,seval,↓reduceIte]
 refine hK _ ?_
 clear hK K
 refine AW.block ?_
 refine AW.for s.l.length (fun k (gx:Nat)=>st [(0,encSl c 6 encXN s),(3,grown 37 gx 1 (namesL (s.l.take k))),(4,.int .i64 k)] [(37,grownO gx V.str (namesL (s.l.take k)))])
  (fun k _=>True) 0 0 (Nat.zero_le _) trivial (Weak.st (by simp -implicitDefEqProofs only[go_sem,seval,↓reduceIte];try rfl) (by simp -implicitDefEqProofs only[go_sem,seval,↓reduceIte];try rfl)) ?_
 intro k gx hk _ L3 hL3
 refine AW.seq_k fun K4 hK4=>?_
 refine AW.seq_k fun K hK=>AW.region (by kernel_rfl) ?_
 simp -implicitDefEqProofs only[go_sem,seval,↓reduceIte]
 refine hK _ ?_
 clear hK K
 refine AW.condS (by simp -implicitDefEqProofs only[go_sem,seval,↓reduceIte];rfl) (fun h11=>?_) (fun h11=>?_)
 ·have hk1:k<s.l.length:=by simpa using h11
  have hg:=List.getElem?_eq_getElem hk1
  have hst:=namesL_take hg
  have hlen:(namesL (s.l.take k)).length≤k:=by
   have:=foldNm_len (s.l.take k) []
   rw [List.length_take] at this
   simp only [List.length_nil,Nat.zero_add] at this
   show (List.foldl addNm [] (s.l.take k)).length≤k
   omega
  generalize s.l[k]=n at hg hst
  generalize namesL (s.l.take k)=ns at hst hlen ⊢
  have hA:addNm ns n=if n.op=2∧ns.contains n.name=false then ns++[n.name] else ns:=rfl
  refine AW.skip ?_
  simp -implicitDefEqProofs only[go_sem,seval,↓reduceIte]
  refine hK4 _ ?_
  refine AW.seq_k fun K6 hK6=>?_
  refine AW.block ?_
  by_cases ho:n.op=2
  rotate_left
  ·have e1:(n.op==2)=false:=by simpa using ho
   rw [if_neg (fun h=>ho h.1)] at hA
   refine AW.seq_k fun K hK=>AW.region (by kernel_rfl) ?_
   simp -implicitDefEqProofs only[go_sem,seval,↓reduceIte,hg,encXN_K,e1]
   refine hK _ ?_
   clear hK K
   refine AW.condS (by simp -implicitDefEqProofs only[go_sem,seval,↓reduceIte];rfl) (fun h25=>?_) (fun h25=>?_)
   ·cases h25
   refine AW.skip ?_
   simp -implicitDefEqProofs only[go_sem,seval,↓reduceIte]
   refine hK6 _ ?_
   refine AW.region (by kernel_rfl) ?_
   simp -implicitDefEqProofs only[go_sem,seval,↓reduceIte]
   refine hL3 _ ⟨hk1,gx,trivial,Weak.st (by rw [hst,hA];simp -implicitDefEqProofs only[go_sem,seval,↓reduceIte];exact congrArg _ (w64 (by omega) (by omega))) (by rw [hst,hA];simp -implicitDefEqProofs only[go_sem,seval,↓reduceIte];try rfl)⟩
  have e1:(n.op==2)=true:=by simpa using ho
  refine AW.seq_k fun K hK=>AW.region (by kernel_rfl) ?_
  simp -implicitDefEqProofs only[go_sem,seval,↓reduceIte,hg,encXN_K,e1]
  refine CallA.bor hG [.str n.name,encSl .old 1 V.str (grownS ns)] (by kernel_rfl) ⟨Rd.im (.str _) rfl,?_,trivial⟩ ?_
  ·exact Rd.grown (g:=gx) (f:=V.str) (f':=V.str) (by simp -implicitDefEqProofs only[go_sem,seval,↓reduceIte];try rfl) (fun _=>rfl) (fun x y hy=>by simp [V.cells] at hy;subst hy;exact .str _) (fun _=>rfl)
  refine (r9Among_spec G hG _ n.name (grownS ns) (by rw [grownS_l];omega)).mono ?_
  rintro _ _ rfl
  refine ⟨.bool _,?_⟩
  rw [grownS_l]
  simp -implicitDefEqProofs only[go_sem,seval,↓reduceIte]
  refine hK _ ?_
  clear hK K
  cases hc:ns.contains n.name with
  | true =>
   rw [hc,if_neg (by simp)] at hA
   refine AW.condS (by simp -implicitDefEqProofs only[go_sem,seval,↓reduceIte];rfl) (fun h25=>?_) (fun h25=>?_)
   ·cases h25
   refine AW.skip ?_
   simp -implicitDefEqProofs only[go_sem,seval,↓reduceIte]
   refine hK6 _ ?_
   refine AW.region (by kernel_rfl) ?_
   simp -implicitDefEqProofs only[go_sem,seval,↓reduceIte]
   refine hL3 _ ⟨hk1,gx,trivial,Weak.st (by rw [hst,hA];simp -implicitDefEqProofs only[go_sem,seval,↓reduceIte];exact congrArg _ (w64 (by omega) (by omega))) (by rw [hst,hA];simp -implicitDefEqProofs only[go_sem,seval,↓reduceIte];try rfl)⟩
  | false =>
   rw [hc,if_pos ⟨ho,rfl⟩] at hA
   refine AW.condS (by simp -implicitDefEqProofs only[go_sem,seval,↓reduceIte];rfl) (fun h25=>?_) (fun h25=>?_)
   rotate_left
   ·cases h25
   refine AW.region (by kernel_rfl) ?_
   simp -implicitDefEqProofs only[go_sem,seval,↓reduceIte,hg,encXN_K]
   intro g29
   refine app_grown (f:=V.str) (l:=ns) (l2:=[n.name]) (g:=gx) (fun _=>rfl) rfl rfl rfl (by simp -implicitDefEqProofs only[go_sem,seval,↓reduceIte];try rfl) (roomOk_of (by omega) (by simp;omega)) fun g2=>?_
   simp -implicitDefEqProofs only[go_sem,seval,↓reduceIte]
   refine hK6 _ ?_
   refine AW.region (by kernel_rfl) ?_
   simp -implicitDefEqProofs only[go_sem,seval,↓reduceIte]
   refine hL3 _ ⟨hk1,g2,trivial,Weak.st (by rw [hst,hA];simp -implicitDefEqProofs only[go_sem,seval,↓reduceIte];exact congrArg _ (w64 (by omega) (by omega))) (by rw [hst,hA];simp -implicitDefEqProofs only[go_sem,seval,↓reduceIte];try rfl)⟩
 ·have hk1:k=s.l.length:=by simp at h11;omega
  refine AW.exit ?_
  simp -implicitDefEqProofs only[go_sem,seval,↓reduceIte]
  refine hK2 _ ?_
  rw [hk1,List.take_length]
  refine AW.weak (Weak.stF (fun o=>o==37) (l:=[(3,encSl .new 1 V.str (grownS (namesL s.l)))]) (m:=[]) ?_ trivial) ?_
  ·simp -implicitDefEqProofs only[go_sem,seval,↓reduceIte]
   exact Fz.grown rfl rfl (fun _=>rfl)
  refine AW.seq_k fun K hK=>AW.region (by kernel_rfl) ?_
  simp -implicitDefEqProofs only[go_sem,seval,↓reduceIte]
  refine hK _ ?_
  clear hK K
  refine AW.ret ?_
  simp -implicitDefEqProofs only[go_sem,seval,↓reduceIte]
  refine endK_some ?_
  rw [hP]
theorem kSameTexts_spec (G:Nat→V) (hG:GOk G) (c c1:Col) (s t:Sl (List UInt8)) (hs:s.l.length<1000000) :
  Spec Tryz.prog G 25 [encSl c 1 V.str s,encSl c1 1 V.str t] hNone (fun v _=>v = .bool (s.l==t.l)):=by
 refine Spec.of_code' 0 26 [.tmp 4] Tryz.func25 rfl rfl rfl rfl fun X=>?_
 refine AW.seq_k fun K hK=>AW.region (by kernel_rfl) ?_
 simp -implicitDefEqProofs only[go_sem,seval,↓reduceIte]
 refine hK _ ?_
 clear hK K
 refine AW.seq_k fun K1 hK1=>?_
 refine AW.seq_k fun K hK=>AW.region (by kernel_rfl) ?_
 simp -implicitDefEqProofs only[go_sem,seval,↓reduceIte]
 refine hK _ ?_
 clear hK K
 by_cases hl:s.l.length=t.l.length
 rotate_left
 ·have q1:(((s.l.length:Nat):Int) != ((t.l.length:Nat):Int))=true:=by simp;omega
  have hne:(s.l==t.l)=false:=by rw [beq_eq_false_iff_ne];exact fun h=>hl (by rw [h])
  refine AW.condS (by simp -implicitDefEqProofs only[go_sem,seval,↓reduceIte];rfl) (fun h10=>?_) (fun h10=>?_)
  ·refine AW.seq_k fun K hK=>AW.region (by kernel_rfl) ?_
   simp -implicitDefEqProofs only[go_sem,seval,↓reduceIte]
   refine hK _ ?_
   clear hK K
   refine AW.ret ?_
   simp -implicitDefEqProofs only[go_sem,seval,↓reduceIte]
   refine endK_some ?_
   rw [hne]
  ·rw [q1] at h10;cases h10
 have q1:(((s.l.length:Nat):Int) != ((t.l.length:Nat):Int))=false:=by simp;omega
 refine AW.condS (by simp -implicitDefEqProofs only[go_sem,seval,↓reduceIte];rfl) (fun h10=>?_) (fun h10=>?_)
 ·rw [q1] at h10;cases h10
 refine AW.skip ?_
 simp -implicitDefEqProofs only[go_sem,seval,↓reduceIte]
 refine hK1 _ ?_
 refine AW.seq_k fun K2 hK2=>?_
 refine AW.seq_k fun K hK=>AW.region (by kernel_rfl) ?_
 simp -implicitDefEqProofs only[go_sem,seval,↓reduceIte]
 refine hK _ ?_
 clear hK K
 refine AW.block ?_
 refine AW.for s.l.length (fun k (_:Unit)=>st [(0,encSl c 1 V.str s),(1,encSl c1 1 V.str t),(5,.int .i64 k)] []) (fun k _=>s.l.take k=t.l.take k) 0 () (Nat.zero_le _) rfl
  (Weak.st (by simp -implicitDefEqProofs only[go_sem,seval,↓reduceIte];try rfl) (by simp -implicitDefEqProofs only[go_sem,seval,↓reduceIte])) ?_
 intro k _ hk hR L3 hL3
 refine AW.seq_k fun K4 hK4=>?_
 refine AW.seq_k fun K hK=>AW.region (by kernel_rfl) ?_
 simp -implicitDefEqProofs only[go_sem,seval,↓reduceIte]
 refine hK _ ?_
 clear hK K
 refine AW.condS (by simp -implicitDefEqProofs only[go_sem,seval,↓reduceIte];rfl) (fun h14=>?_) (fun h14=>?_)
 ·have hk1:k<s.l.length:=by simpa using h14
  have hk2:k<t.l.length:=by omega
  have hg:=List.getElem?_eq_getElem hk1
  have hg2:=List.getElem?_eq_getElem hk2
  have htk:s.l.take (k+1)=s.l.take k++[s.l[k]]:=by rw [List.take_succ_eq_append_getElem hk1]
  have htk2:t.l.take (k+1)=t.l.take k++[t.l[k]]:=by rw [List.take_succ_eq_append_getElem hk2]
  generalize s.l[k]=x at hg htk
  generalize t.l[k]=y at hg2 htk2
  refine AW.skip ?_
  simp -implicitDefEqProofs only[go_sem,seval,↓reduceIte]
  refine hK4 _ ?_
  refine AW.seq_k fun K5 hK5=>?_
  refine AW.block ?_
  by_cases hxy:x=y
  rotate_left
  ·have q2:(x==y)=false:=by simpa using hxy
   have hne:(s.l==t.l)=false:=by
    rw [beq_eq_false_iff_ne]
    intro h
    rw [h,hg2] at hg
    exact hxy (Option.some.inj hg).symm
   refine AW.seq_k fun K hK=>AW.regionT ⟨fun _ => .top,fun _ => .pure⟩ (by kernel_rfl) hG (by kernel_rfl) (by kernel_rfl) ?_
   simp -implicitDefEqProofs only[go_sem,seval,↓reduceIte,hg,hg2,bne,q2]
   refine hK _ ?_
   clear hK K
   refine AW.condS (by simp -implicitDefEqProofs only[go_sem,seval,↓reduceIte];rfl) (fun h25=>?_) (fun h25=>?_)
   ·refine AW.seq_k fun K hK=>AW.region (by kernel_rfl) ?_
    simp -implicitDefEqProofs only[go_sem,seval,↓reduceIte]
    refine hK _ ?_
    clear hK K
    refine AW.ret ?_
    simp -implicitDefEqProofs only[go_sem,seval,↓reduceIte]
    refine endK_some ?_
    rw [hne]
   ·cases h25
  have q2:(x==y)=true:=by simpa using hxy
  refine AW.seq_k fun K hK=>AW.regionT ⟨fun _ => .top,fun _ => .pure⟩ (by kernel_rfl) hG (by kernel_rfl) (by kernel_rfl) ?_
  simp -implicitDefEqProofs only[go_sem,seval,↓reduceIte,hg,hg2,bne,q2]
  refine hK _ ?_
  clear hK K
  refine AW.condS (by simp -implicitDefEqProofs only[go_sem,seval,↓reduceIte];rfl) (fun h25=>?_) (fun h25=>?_)
  ·cases h25
  refine AW.skip ?_
  simp -implicitDefEqProofs only[go_sem,seval,↓reduceIte]
  refine hK5 _ ?_
  refine AW.region (by kernel_rfl) ?_
  simp -implicitDefEqProofs only[go_sem,seval,↓reduceIte]
  exact hL3 _ ⟨hk1,(),by rw [htk,htk2,hR,hxy],Weak.st (by simp -implicitDefEqProofs only[go_sem,seval,↓reduceIte];exact congrArg _ (w64 (by omega) (by omega))) (by simp -implicitDefEqProofs only[go_sem,seval,↓reduceIte])⟩
 ·have hk1:k=s.l.length:=by simp at h14;omega
  refine AW.exit ?_
  simp -implicitDefEqProofs only[go_sem,seval,↓reduceIte]
  refine hK2 _ ?_
  rw [hk1,List.take_length,hl,List.take_length] at hR
  refine AW.seq_k fun K hK=>AW.region (by kernel_rfl) ?_
  simp -implicitDefEqProofs only[go_sem,seval,↓reduceIte]
  refine hK _ ?_
  clear hK K
  refine AW.ret ?_
  simp -implicitDefEqProofs only[go_sem,seval,↓reduceIte]
  refine endK_some ?_
  rw [hR];simp
theorem xn_eq (n m:XN):(n.op==m.op && (n.num==m.num && (n.name==m.name && (n.a==m.a && (n.b==m.b && (n.c==m.c && true))))))=(n==m):=by
 obtain ⟨a1,a2,a3,a4,a5,a6⟩:=n
 obtain ⟨b1,b2,b3,b4,b5,b6⟩:=m
 rw [Bool.eq_iff_iff]
 simp [and_assoc]
theorem wSame_spec (G:Nat→V) (hG:GOk G) (c c1:Col) (s t:Sl XN) (hs:s.l.length<1000000) :
  Spec Tryz.prog G 28 [encSl c 6 encXN s,encSl c1 6 encXN t] hNone (fun v _=>v = .bool (s.l==t.l)):=by
 refine Spec.of_code' 0 26 [.tmp 4] Tryz.func28 rfl rfl rfl rfl fun X=>?_
 refine AW.seq_k fun K hK=>AW.region (by kernel_rfl) ?_
 simp -implicitDefEqProofs only[go_sem,seval,↓reduceIte]
 refine hK _ ?_
 clear hK K
 refine AW.seq_k fun K1 hK1=>?_
 refine AW.seq_k fun K hK=>AW.region (by kernel_rfl) ?_
 simp -implicitDefEqProofs only[go_sem,seval,↓reduceIte]
 refine hK _ ?_
 clear hK K
 by_cases hl:s.l.length=t.l.length
 rotate_left
 ·have q1:(((s.l.length:Nat):Int) != ((t.l.length:Nat):Int))=true:=by simp;omega
  have hne:(s.l==t.l)=false:=by rw [beq_eq_false_iff_ne];exact fun h=>hl (by rw [h])
  refine AW.condS (by simp -implicitDefEqProofs only[go_sem,seval,↓reduceIte];rfl) (fun h10=>?_) (fun h10=>?_)
  ·refine AW.seq_k fun K hK=>AW.region (by kernel_rfl) ?_
   simp -implicitDefEqProofs only[go_sem,seval,↓reduceIte]
   refine hK _ ?_
   clear hK K
   refine AW.ret ?_
   simp -implicitDefEqProofs only[go_sem,seval,↓reduceIte]
   refine endK_some ?_
   rw [hne]
  ·rw [q1] at h10;cases h10
 have q1:(((s.l.length:Nat):Int) != ((t.l.length:Nat):Int))=false:=by simp;omega
 refine AW.condS (by simp -implicitDefEqProofs only[go_sem,seval,↓reduceIte];rfl) (fun h10=>?_) (fun h10=>?_)
 ·rw [q1] at h10;cases h10
 refine AW.skip ?_
 simp -implicitDefEqProofs only[go_sem,seval,↓reduceIte]
 refine hK1 _ ?_
 refine AW.seq_k fun K2 hK2=>?_
 refine AW.seq_k fun K hK=>AW.region (by kernel_rfl) ?_
 simp -implicitDefEqProofs only[go_sem,seval,↓reduceIte]
 refine hK _ ?_
 clear hK K
 refine AW.block ?_
 refine AW.for s.l.length (fun k (_:Unit)=>st [(0,encSl c 6 encXN s),(1,encSl c1 6 encXN t),(5,.int .i64 k)] []) (fun k _=>s.l.take k=t.l.take k) 0 () (Nat.zero_le _) rfl
  (Weak.st (by simp -implicitDefEqProofs only[go_sem,seval,↓reduceIte];try rfl) (by simp -implicitDefEqProofs only[go_sem,seval,↓reduceIte])) ?_
 intro k _ hk hR L3 hL3
 refine AW.seq_k fun K4 hK4=>?_
 refine AW.seq_k fun K hK=>AW.region (by kernel_rfl) ?_
 simp -implicitDefEqProofs only[go_sem,seval,↓reduceIte]
 refine hK _ ?_
 clear hK K
 refine AW.condS (by simp -implicitDefEqProofs only[go_sem,seval,↓reduceIte];rfl) (fun h14=>?_) (fun h14=>?_)
 ·have hk1:k<s.l.length:=by simpa using h14
  have hk2:k<t.l.length:=by omega
  have hg:=List.getElem?_eq_getElem hk1
  have hg2:=List.getElem?_eq_getElem hk2
  have htk:s.l.take (k+1)=s.l.take k++[s.l[k]]:=by rw [List.take_succ_eq_append_getElem hk1]
  have htk2:t.l.take (k+1)=t.l.take k++[t.l[k]]:=by rw [List.take_succ_eq_append_getElem hk2]
  generalize s.l[k]=x at hg htk
  generalize t.l[k]=y at hg2 htk2
  refine AW.skip ?_
  simp -implicitDefEqProofs only[go_sem,seval,↓reduceIte]
  refine hK4 _ ?_
  refine AW.seq_k fun K5 hK5=>?_
  refine AW.block ?_
  by_cases hxy:x=y
  rotate_left
  ·have q2:(x==y)=false:=by simpa using hxy
   have hne:(s.l==t.l)=false:=by
    rw [beq_eq_false_iff_ne]
    intro h
    rw [h,hg2] at hg
    exact hxy (Option.some.inj hg).symm
   refine AW.seq_k fun K hK=>AW.regionT ⟨fun _ => .top,fun _ => .pure⟩ (by kernel_rfl) hG (by kernel_rfl) (by kernel_rfl) ?_
   simp -implicitDefEqProofs only[go_sem,seval,↓reduceIte,hg,hg2,encXN_K,xn_eq,q2]
   refine hK _ ?_
   clear hK K
   refine AW.condS (by simp -implicitDefEqProofs only[go_sem,seval,↓reduceIte];rfl) (fun h25=>?_) (fun h25=>?_)
   ·refine AW.seq_k fun K hK=>AW.region (by kernel_rfl) ?_
    simp -implicitDefEqProofs only[go_sem,seval,↓reduceIte]
    refine hK _ ?_
    clear hK K
    refine AW.ret ?_
    simp -implicitDefEqProofs only[go_sem,seval,↓reduceIte]
    refine endK_some ?_
    rw [hne]
   ·cases h25
  have q2:(x==y)=true:=by simpa using hxy
  refine AW.seq_k fun K hK=>AW.regionT ⟨fun _ => .top,fun _ => .pure⟩ (by kernel_rfl) hG (by kernel_rfl) (by kernel_rfl) ?_
  simp -implicitDefEqProofs only[go_sem,seval,↓reduceIte,hg,hg2,encXN_K,xn_eq,q2]
  refine hK _ ?_
  clear hK K
  refine AW.condS (by simp -implicitDefEqProofs only[go_sem,seval,↓reduceIte];rfl) (fun h25=>?_) (fun h25=>?_)
  ·cases h25
  refine AW.skip ?_
  simp -implicitDefEqProofs only[go_sem,seval,↓reduceIte]
  refine hK5 _ ?_
  refine AW.region (by kernel_rfl) ?_
  simp -implicitDefEqProofs only[go_sem,seval,↓reduceIte]
  exact hL3 _ ⟨hk1,(),by rw [htk,htk2,hR,hxy],Weak.st (by simp -implicitDefEqProofs only[go_sem,seval,↓reduceIte];exact congrArg _ (w64 (by omega) (by omega))) (by simp -implicitDefEqProofs only[go_sem,seval,↓reduceIte])⟩
 ·have hk1:k=s.l.length:=by simp at h14;omega
  refine AW.exit ?_
  simp -implicitDefEqProofs only[go_sem,seval,↓reduceIte]
  refine hK2 _ ?_
  rw [hk1,List.take_length,hl,List.take_length] at hR
  refine AW.seq_k fun K hK=>AW.region (by kernel_rfl) ?_
  simp -implicitDefEqProofs only[go_sem,seval,↓reduceIte]
  refine hK _ ?_
  clear hK K
  refine AW.ret ?_
  simp -implicitDefEqProofs only[go_sem,seval,↓reduceIte]
  refine endK_some ?_
  rw [hR];simp
end Go.Hs
end

section
namespace Go.Hs
open Go.Proofs
set_option maxRecDepth 10000
def parseT (t:List UInt8) (below:Bool):Int × Int :=
 if t=[]∨(t.head? = some 48∧(t.length > 1∨below=true))∨t.all isDig=false then (0,2)
 else told (if below then -(val (t.reverse.map dval):Int) else val (t.reverse.map dval))
theorem parseR_T (s:List UInt8):parseR s=parseT (if (s.head? == some 45)=true then s.drop 1 else s) (s.head? == some 45):=rfl
theorem u8_eq (c:UInt8) (n:Nat) (hn:n<256):((c.toNat:Int)==(n:Int))=(c==UInt8.ofNat n):=by
 by_cases h:c.toNat=n
 ·have h1:c=UInt8.ofNat n:=by
   apply UInt8.toNat_inj.1
   rw [UInt8.toNat_ofNat',h]
   omega
  rw [h1]
  simp
  omega
 ·have h1:¬ c=UInt8.ofNat n:=by
   intro e
   apply h
   rw [e,UInt8.toNat_ofNat']
   omega
  have h2:¬ (c.toNat:Int)=(n:Int):=by omega
  rw [show (c==UInt8.ofNat n)=false by simpa using h1,show ((c.toNat:Int)==(n:Int))=false from beq_eq_false_iff_ne.2 h2]
theorem u8_45 (c:UInt8):((c.toNat:Int)==45)=(c==45):=u8_eq c 45 (by decide)
theorem u8_48 (c:UInt8):((c.toNat:Int)==48)=(c==48):=u8_eq c 48 (by decide)
theorem rParse_spec (G:Nat→V) (hG:GOk G) (s:List UInt8) (hs:s.length<1000000):Spec Tryz.prog G 130 [.str s] hNone (fun v _=>v=encR (parseR s)):=by
 rw [parseR_T]
 generalize hb0:(s.head? == some 45)=b0
 generalize ht0:(if b0=true then s.drop 1 else s)=t0
 refine Spec.of_code' 0 64 [.tmp 2,.tmp 3] Tryz.func130 rfl rfl rfl rfl fun X=>?_
 refine AW.seq_k fun K hK=>AW.region (by kernel_rfl) ?_
 simp -implicitDefEqProofs only[go_sem,seval,↓reduceIte]
 refine hK _ ?_
 clear hK K
 refine AW.seqJ (fun (_:Unit)=>st [(0,.str s),(4,.bool b0)] []) (fun _=>True) (fun K1 hK1=>?_) ?_
 ·cases s with
  | nil =>
   refine AW.region (by kernel_rfl) ?_
   simp -implicitDefEqProofs only[go_sem,seval,↓reduceIte]
   exact hK1 _ () trivial (Weak.st (by simp -implicitDefEqProofs only[go_sem,seval,↓reduceIte];rw [← hb0];rfl) (by simp -implicitDefEqProofs only[go_sem,seval,↓reduceIte]))
  | cons c r =>
   refine AW.region (by kernel_rfl) ?_
   simp -implicitDefEqProofs only[go_sem,seval,↓reduceIte,u8_45]
   exact hK1 _ () trivial (Weak.st (by simp -implicitDefEqProofs only[go_sem,seval,↓reduceIte];rw [← hb0];rfl) (by simp -implicitDefEqProofs only[go_sem,seval,↓reduceIte]))
 intro _ _
 refine AW.seqJ (fun (_:Unit)=>st [(0,.str t0),(4,.bool b0)] []) (fun _=>True) (fun K2 hK2=>?_) ?_
 ·refine AW.seq_k fun K hK=>AW.region (by kernel_rfl) ?_
  simp -implicitDefEqProofs only[go_sem,seval,↓reduceIte]
  refine hK _ ?_
  clear hK K
  refine AW.condS (by simp -implicitDefEqProofs only[go_sem,seval,↓reduceIte];rfl) (fun h2=>?_) (fun h2=>?_)
  ·subst h2
   have h1:1≤s.length:=by
    cases s with
    | nil=>simp at hb0
    | cons _ _=>simp
   refine AW.region (by kernel_rfl) ?_
   simp -implicitDefEqProofs only[go_sem,seval,↓reduceIte,h1,Nat.le_refl]
   refine hK2 _ () trivial ?_
   exact (Weak.st (by simp -implicitDefEqProofs only[go_sem,seval,↓reduceIte];rw [← ht0];simp;try exact List.take_of_length_le (by simp)) (by simp -implicitDefEqProofs only[go_sem,seval,↓reduceIte]))
  ·subst h2
   refine AW.skip ?_
   simp -implicitDefEqProofs only[go_sem,seval,↓reduceIte]
   exact hK2 _ () trivial (Weak.st (by simp -implicitDefEqProofs only[go_sem,seval,↓reduceIte];rw [← ht0];simp) (by simp -implicitDefEqProofs only[go_sem,seval,↓reduceIte]))
 intro _ _
 have htl:t0.length≤s.length:=by rw [← ht0];split<;>simp
 clear ht0 hb0
 refine AW.seqJ (fun (_:Unit)=>st [(0,.str t0),(4,.bool b0)] []) (fun _=>t0≠[]∧¬ (t0.head? = some 48∧(t0.length > 1∨b0=true))) (fun K3 hK3=>?_) ?_
 ·cases t0 with
  | nil =>
   refine AW.seq_k fun K hK=>AW.region (by kernel_rfl) ?_
   simp -implicitDefEqProofs only[go_sem,seval,↓reduceIte]
   refine hK _ ?_
   clear hK K
   refine AW.condS (by simp -implicitDefEqProofs only[go_sem,seval,↓reduceIte];rfl) (fun h4=>?_) (fun h4=>?_)
   ·refine AW.seq_k fun K hK=>AW.region (by kernel_rfl) ?_
    simp -implicitDefEqProofs only[go_sem,seval,↓reduceIte]
    refine hK _ ?_
    clear hK K
    refine AW.ret ?_
    simp -implicitDefEqProofs only[go_sem,seval,↓reduceIte]
    refine endK_some ?_
    rw [parseT,if_pos (.inl rfl)]
    rfl
   ·cases h4
  | cons c r =>
   by_cases hc:c=48
   ·have hc1:(c==48)=true:=by simpa using hc
    by_cases hl:r.length=0
    ·have hl1:decide (((r.length+1:Nat):Int) > 1)=false:=by rw [decide_eq_false_iff_not];omega
     cases b0 with
     | true =>
      refine AW.seq_k fun K hK=>AW.region (by kernel_rfl) ?_
      simp -implicitDefEqProofs only[go_sem,seval,↓reduceIte,u8_48,hc1,hl1]
      refine hK _ ?_
      clear hK K
      refine AW.condS (by simp -implicitDefEqProofs only[go_sem,seval,↓reduceIte];rfl) (fun h4=>?_) (fun h4=>?_)
      ·refine AW.seq_k fun K hK=>AW.region (by kernel_rfl) ?_
       simp -implicitDefEqProofs only[go_sem,seval,↓reduceIte]
       refine hK _ ?_
       clear hK K
       refine AW.ret ?_
       simp -implicitDefEqProofs only[go_sem,seval,↓reduceIte]
       refine endK_some ?_
       rw [parseT,if_pos (.inr (.inl ⟨by simp [hc],.inr rfl⟩))]
       rfl
      ·cases h4
     | false =>
      refine AW.seq_k fun K hK=>AW.region (by kernel_rfl) ?_
      simp -implicitDefEqProofs only[go_sem,seval,↓reduceIte,u8_48,hc1,hl1]
      refine hK _ ?_
      clear hK K
      refine AW.condS (by simp -implicitDefEqProofs only[go_sem,seval,↓reduceIte];rfl) (fun h4=>?_) (fun h4=>?_)
      ·cases h4
      ·refine AW.skip ?_
       simp -implicitDefEqProofs only[go_sem,seval,↓reduceIte]
       exact hK3 _ () ⟨by simp,by simp [hl]⟩ (Weak.st (by simp -implicitDefEqProofs only[go_sem,seval,↓reduceIte]) (by simp -implicitDefEqProofs only[go_sem,seval,↓reduceIte]))
    ·have hl1:decide (((r.length+1:Nat):Int) > 1)=true:=by rw [decide_eq_true_iff];omega
     refine AW.seq_k fun K hK=>AW.region (by kernel_rfl) ?_
     simp -implicitDefEqProofs only[go_sem,seval,↓reduceIte,u8_48,hc1,hl1]
     refine hK _ ?_
     clear hK K
     refine AW.condS (by simp -implicitDefEqProofs only[go_sem,seval,↓reduceIte];rfl) (fun h4=>?_) (fun h4=>?_)
     ·refine AW.seq_k fun K hK=>AW.region (by kernel_rfl) ?_
      simp -implicitDefEqProofs only[go_sem,seval,↓reduceIte]
      refine hK _ ?_
      clear hK K
      refine AW.ret ?_
      simp -implicitDefEqProofs only[go_sem,seval,↓reduceIte]
      refine endK_some ?_
      rw [parseT,if_pos (.inr (.inl ⟨by simp [hc],.inl (by simp;omega)⟩))]
      rfl
     ·cases h4
   ·have hc1:(c==48)=false:=by simpa using hc
    refine AW.seq_k fun K hK=>AW.region (by kernel_rfl) ?_
    simp -implicitDefEqProofs only[go_sem,seval,↓reduceIte,u8_48,hc1]
    refine hK _ ?_
    clear hK K
    refine AW.condS (by simp -implicitDefEqProofs only[go_sem,seval,↓reduceIte];rfl) (fun h4=>?_) (fun h4=>?_)
    ·cases h4
    ·refine AW.skip ?_
     simp -implicitDefEqProofs only[go_sem,seval,↓reduceIte]
     exact hK3 _ () ⟨by simp,by simp [hc]⟩ (Weak.st (by simp -implicitDefEqProofs only[go_sem,seval,↓reduceIte]) (by simp -implicitDefEqProofs only[go_sem,seval,↓reduceIte]))
 rintro _ ⟨hne,hno⟩
 refine AW.seq_k fun K hK=>AW.region (by kernel_rfl) ?_
 simp -implicitDefEqProofs only[go_sem,seval,↓reduceIte]
 refine hK _ ?_
 clear hK K
 refine AW.seq_k fun K4 hK4=>?_
 refine AW.seq_k fun K hK=>AW.region (by kernel_rfl) ?_
 simp -implicitDefEqProofs only[go_sem,seval,↓reduceIte]
 refine hK _ ?_
 clear hK K
 refine AW.block ?_
 refine AW.for t0.length (fun k (x:Nat)=>st [(0,.str t0),(4,.bool b0),(5,grown 56 x 1 (ints ((t0.drop (t0.length-k)).reverse.map dval))),(6,.int .i64 ((t0.length:Int)-1-k))] [(56,grownO x (V.int .i64) (ints ((t0.drop (t0.length-k)).reverse.map dval)))])
  (fun k _=>(t0.drop (t0.length-k)).all isDig=true) 0 0 (Nat.zero_le _) (by rw [List.drop_eq_nil_of_le (by omega)];rfl)
  (Weak.st (by rw [List.drop_eq_nil_of_le (by omega)];simp -implicitDefEqProofs only[go_sem,seval,↓reduceIte];exact ⟨rfl,congrArg _ (by rw [w64 (by omega) (by omega)];omega)⟩) (by rw [List.drop_eq_nil_of_le (by omega)];simp -implicitDefEqProofs only[go_sem,seval,↓reduceIte];try rfl)) ?_
 intro k gx hk hI L2 hL2
 refine AW.seq_k fun K5 hK5=>?_
 refine AW.seq_k fun K hK=>AW.region (by kernel_rfl) ?_
 simp -implicitDefEqProofs only[go_sem,seval,↓reduceIte]
 refine hK _ ?_
 clear hK K
 refine AW.condS (by simp -implicitDefEqProofs only[go_sem,seval,↓reduceIte];rfl) (fun h4=>?_) (fun h4=>?_)
 ·have hk1:k<t0.length:=by have:=of_decide_eq_true h4;omega
  refine AW.skip ?_
  simp -implicitDefEqProofs only[go_sem,seval,↓reduceIte]
  refine hK5 _ ?_
  obtain ⟨i,hi⟩:∃ i,i=t0.length-1-k:=⟨_,rfl⟩
  have e0:((t0.length:Int)-1-k)=(i:Int):=by omega
  have hi1:i<t0.length:=by omega
  have g2:=List.getElem?_eq_getElem hi1
  have hdr:t0.drop i=t0[i]::t0.drop (i+1):=List.drop_eq_getElem_cons hi1
  have hall:t0.all isDig=((t0.take i).all isDig && (isDig t0[i] && (t0.drop (i+1)).all isDig)):=by
   rw [← List.all_cons,← hdr,← List.all_append,List.take_append_drop]
  generalize t0[i]=c at g2 hdr hall
  rw [show t0.length-k=i+1 by omega] at hI ⊢
  rw [e0]
  have hlen:((t0.drop (i+1)).reverse.map dval).length<1000000:=by simp;omega
  refine AW.seq_k fun K6 hK6=>?_
  refine AW.block ?_
  refine AW.seq_k fun K7 hK7=>?_
  by_cases hc:isDig c=true
  ·have hc2:48≤c.toNat∧c.toNat≤57:=by unfold isDig at hc;simpa using hc
   have b1:decide ((c.toNat:Int)<48)=false:=by rw [decide_eq_false_iff_not];omega
   have b2:decide ((c.toNat:Int) > 57)=false:=by rw [decide_eq_false_iff_not];omega
   have hdv:IntKind.i64.wrap ((c.toNat:Int)-48)=((dval c:Nat):Int):=by rw [w64 (by omega) (by omega)];unfold dval;omega
   have hwc:IntKind.i64.wrap (c.toNat:Int)=(c.toNat:Int):=w64 (by omega) (by omega)
   refine AW.seq_k fun K hK=>AW.region (by kernel_rfl) ?_
   simp -implicitDefEqProofs only[go_sem,seval,↓reduceIte,g2,b1,b2]
   refine hK _ ?_
   clear hK K
   refine AW.condS (by simp -implicitDefEqProofs only[go_sem,seval,↓reduceIte];rfl) (fun h7=>?_) (fun h7=>?_)
   ·cases h7
   ·refine AW.skip ?_
    simp -implicitDefEqProofs only[go_sem,seval,↓reduceIte]
    refine hK7 _ ?_
    refine AW.region (by kernel_rfl) ?_
    simp -implicitDefEqProofs only[go_sem,seval,↓reduceIte,g2,hwc,hdv]
    intro g55
    refine app_grown (f:=V.int .i64) (l:=ints ((t0.drop (i+1)).reverse.map dval)) (l2:=[((dval c:Nat):Int)]) (g:=gx) (fun _=>rfl) rfl rfl rfl rfl (roomOk_of (by omega) (by simp;omega)) fun g56=>?_
    simp -implicitDefEqProofs only[go_sem,seval,↓reduceIte]
    refine hK6 _ ?_
    refine AW.region (by kernel_rfl) ?_
    simp -implicitDefEqProofs only[go_sem,seval,↓reduceIte]
    have hnew:(t0.drop (t0.length-(k+1))).reverse.map dval=(t0.drop (i+1)).reverse.map dval++[dval c]:=by
     rw [show t0.length-(k+1)=i by omega,hdr];simp
    refine hL2 _ ⟨hk1,g56,?_,Weak.st (by rw [hnew];simp -implicitDefEqProofs only[go_sem,seval,↓reduceIte,ints_app];exact ⟨rfl,congrArg _ (by rw [w64 (by omega) (by omega)];omega)⟩) (by rw [hnew];simp -implicitDefEqProofs only[go_sem,seval,↓reduceIte,ints_app];try rfl)⟩
    rw [show t0.length-(k+1)=i by omega,hdr,List.all_cons,hc,hI];rfl
  ·have hcf:isDig c=false:=by simpa using hc
   have hbad:t0.all isDig=false:=by rw [hall,hcf];simp
   have hc2:c.toNat<48∨57<c.toNat:=by
    rcases Nat.lt_or_ge c.toNat 48 with h | h
    ·exact .inl h
    ·rcases Nat.lt_or_ge 57 c.toNat with h1 | h1
     ·exact .inr h1
     ·exact absurd (by unfold isDig;simp [h,h1]) hc
   have hP:parseT t0 b0=(0,2):=by rw [parseT,if_pos (.inr (.inr hbad))]
   rcases hc2 with h | h
   ·have b1:decide ((c.toNat:Int)<48)=true:=by rw [decide_eq_true_iff];omega
    refine AW.seq_k fun K hK=>AW.region (by kernel_rfl) ?_
    simp -implicitDefEqProofs only[go_sem,seval,↓reduceIte,g2,b1]
    refine hK _ ?_
    clear hK K
    refine AW.condS (by simp -implicitDefEqProofs only[go_sem,seval,↓reduceIte];rfl) (fun h7=>?_) (fun h7=>?_)
    ·refine AW.seq_k fun K hK=>AW.region (by kernel_rfl) ?_
     simp -implicitDefEqProofs only[go_sem,seval,↓reduceIte]
     refine hK _ ?_
     clear hK K
     refine AW.ret ?_
     simp -implicitDefEqProofs only[go_sem,seval,↓reduceIte]
     refine endK_some ?_
     rw [hP];rfl
    ·cases h7
   ·have b1:decide ((c.toNat:Int)<48)=false:=by rw [decide_eq_false_iff_not];omega
    have b2:decide ((c.toNat:Int) > 57)=true:=by rw [decide_eq_true_iff];omega
    refine AW.seq_k fun K hK=>AW.region (by kernel_rfl) ?_
    simp -implicitDefEqProofs only[go_sem,seval,↓reduceIte,g2,b1,b2]
    refine hK _ ?_
    clear hK K
    refine AW.condS (by simp -implicitDefEqProofs only[go_sem,seval,↓reduceIte];rfl) (fun h7=>?_) (fun h7=>?_)
    ·refine AW.seq_k fun K hK=>AW.region (by kernel_rfl) ?_
     simp -implicitDefEqProofs only[go_sem,seval,↓reduceIte]
     refine hK _ ?_
     clear hK K
     refine AW.ret ?_
     simp -implicitDefEqProofs only[go_sem,seval,↓reduceIte]
     refine endK_some ?_
     rw [hP];rfl
    ·cases h7
 ·have hk1:k=t0.length:=by have:=of_decide_eq_false h4;omega
  subst hk1
  rw [Nat.sub_self,List.drop_zero] at hI ⊢
  have hP:parseT t0 b0=told (sgn b0 (val (t0.reverse.map dval))):=by
   rw [parseT,if_neg (by rw [hI];simp [hne,hno])]
   rfl
  have hdig:Dig (t0.reverse.map dval):=by
   intro d hd
   obtain ⟨c,h1,rfl⟩:=List.mem_map.1 hd
   have:=List.all_eq_true.1 hI c (List.mem_reverse.1 h1)
   unfold isDig at this
   unfold dval
   simp at this
   omega
  have hol:(t0.reverse.map dval).length<1000000:=by simp;omega
  generalize t0.reverse.map dval=out at hdig hol hP
  refine AW.exit ?_
  simp -implicitDefEqProofs only[go_sem,seval,↓reduceIte]
  refine hK4 _ ?_
  refine AW.weak (Weak.stF (fun o=>o==56) (l:=[(4,.bool b0),(5,encSl .new 1 (V.int .i64) (slD (decide (out=[])) out))]) (m:=[]) ?_ trivial) ?_
  ·simp -implicitDefEqProofs only[go_sem,seval,↓reduceIte]
   rw [← grownS_ints rfl]
   exact ⟨Fz.same _,Fz.grown rfl rfl (fun _=>rfl)⟩
  refine AW.seq_k fun K hK=>AW.region (by kernel_rfl) ?_
  simp -implicitDefEqProofs only[go_sem,seval,↓reduceIte]
  refine CallA.pure hG (by kernel_rfl) ?_
  simp -implicitDefEqProofs only[go_sem,seval,↓reduceIte]
  refine (trim_spec G hG _ (decide (out=[])) out (by simp) (by omega)).mono ?_
  rintro _ _ rfl
  rw [trim_val _ _ (Nat.le_refl _) hdig]
  have hnl:decide (out=[])=true→dg (val out)=[]:=by
   intro h
   have:=of_decide_eq_true h
   subst this
   rfl
  have hvl:(dg (val out)).length<1000000:=by
   have:=dg_len (val_lt hdig)
   omega
  simp -implicitDefEqProofs only[go_sem,seval,↓reduceIte]
  refine CallA.pure hG (by kernel_rfl) ?_
  simp -implicitDefEqProofs only[go_sem,seval,↓reduceIte]
  rw [← encLong]
  refine (rTold_spec G hG _ _ _ _ hnl (dig_dg _) hvl).mono ?_
  rintro _ _ rfl
  rw [val_dg]
  simp -implicitDefEqProofs only[go_sem,seval,↓reduceIte,encR]
  refine hK _ ?_
  clear hK K
  refine AW.ret ?_
  simp -implicitDefEqProofs only[go_sem,seval,↓reduceIte]
  refine endK_some ?_
  rw [hP]
  rfl
end Go.Hs
end

section
namespace Go.Hs
open Go.Proofs
set_option maxRecDepth 10000
theorem rNext_spec (G:Nat→V) (hG:GOk G) (sl:Sl Tk) (hT:TkOk sl.l) (g:Nat) (r:RS) (hr:r.i<1000000):RdS 1012 [] G 115 [] sl g r (.str (nextP sl.l r.i).text) r:=by
 intro gx
 refine Spec.of_code' 1000 50 [.tmp 2] Tryz.func115 rfl rfl rfl rfl fun X=>?_
 simp only [sets,rdO_K]
 refine AW.seq_k fun K hK=>AW.region (by kernel_rfl) ?_
 simp -implicitDefEqProofs only[go_sem,seval,↓reduceIte]
 refine hK _ ?_
 clear hK K
 refine AW.seq_k fun K1 hK1=>?_
 by_cases hi:r.i<sl.l.length
 ·have h1:decide ((r.i:Int)≥sl.l.length)=false:=by rw [decide_eq_false_iff_not];omega
  have hg:=List.getElem?_eq_getElem hi
  have hm:=hT.text _ (List.getElem_mem hi)
  generalize sl.l[r.i]=t at hg hm
  have hP:=nextP_some hg
  have p1:PureC Tryz.prog G 127 [.str t.text] (.int .u8 (isP t.text)):=⟨by kernel_rfl,by
   simp -implicitDefEqProofs only[go_sem,seval,↓reduceIte]
   refine (rIs_spec G hG t.text (by omega)).mono ?_
   rintro _ _ rfl
   rfl⟩
  by_cases hk:(isP t.text:Int)=t.kind
  ·rw [if_pos hk] at hP
   have e1:((isP t.text:Int) != t.kind)=false:=by simpa using hk
   refine AW.seq_k fun K hK=>AW.regionT ⟨fun i=>if i=22 then .int .u8 (isP t.text) else .top,fun _ => .pure⟩ (by kernel_rfl) hG (by kernel_rfl) (by kernel_rfl) ?_
   simp -implicitDefEqProofs only[go_sem,seval,↓reduceIte,h1,hg,encTk_K,e1]
   refine ⟨p1,?_⟩
   refine hK _ ?_
   clear hK K
   refine AW.condS (by simp -implicitDefEqProofs only[go_sem,seval,↓reduceIte];rfl) (fun h2=>?_) (fun h2=>?_)
   ·cases h2
   ·refine AW.skip ?_
    simp -implicitDefEqProofs only[go_sem,seval,↓reduceIte]
    refine hK1 _ ?_
    refine AW.seq_k fun K hK=>AW.regionT ⟨fun _ => .top,fun _ => .pure⟩ (by kernel_rfl) hG (by kernel_rfl) (by kernel_rfl) ?_
    simp -implicitDefEqProofs only[go_sem,seval,↓reduceIte,hg,encTk_K]
    refine hK _ ?_
    clear hK K
    refine AW.ret ?_
    simp -implicitDefEqProofs only[go_sem,seval,↓reduceIte]
    refine endK_some ?_
    exact ⟨by rw [hP],gx,by simp -implicitDefEqProofs only[go_sem,seval,↓reduceIte];try rfl,by simp -implicitDefEqProofs only[go_sem,seval,↓reduceIte];try rfl⟩
  ·rw [if_neg hk] at hP
   have e1:((isP t.text:Int) != t.kind)=true:=by simpa using hk
   refine AW.seq_k fun K hK=>AW.regionT ⟨fun i=>if i=22 then .int .u8 (isP t.text) else .top,fun _ => .pure⟩ (by kernel_rfl) hG (by kernel_rfl) (by kernel_rfl) ?_
   simp -implicitDefEqProofs only[go_sem,seval,↓reduceIte,h1,hg,encTk_K,e1]
   refine ⟨p1,?_⟩
   refine hK _ ?_
   clear hK K
   refine AW.condS (by simp -implicitDefEqProofs only[go_sem,seval,↓reduceIte];rfl) (fun h2=>?_) (fun h2=>?_)
   ·refine AW.seq_k fun K hK=>AW.region (by kernel_rfl) ?_
    simp -implicitDefEqProofs only[go_sem,seval,↓reduceIte]
    refine hK _ ?_
    clear hK K
    refine AW.ret ?_
    simp -implicitDefEqProofs only[go_sem,seval,↓reduceIte]
    refine endK_some ?_
    exact ⟨by rw [hP],gx,by simp -implicitDefEqProofs only[go_sem,seval,↓reduceIte];try rfl,by simp -implicitDefEqProofs only[go_sem,seval,↓reduceIte];try rfl⟩
   ·cases h2
 ·have h1:decide ((r.i:Int)≥sl.l.length)=true:=by rw [decide_eq_true_iff];omega
  have hP:=nextP_none (l:=sl.l) (i:=r.i) (by omega)
  refine AW.seq_k fun K hK=>AW.regionT ⟨fun _ => .top,fun _ => .pure⟩ (by kernel_rfl) hG (by kernel_rfl) (by kernel_rfl) ?_
  simp -implicitDefEqProofs only[go_sem,seval,↓reduceIte,h1]
  refine hK _ ?_
  clear hK K
  refine AW.condS (by simp -implicitDefEqProofs only[go_sem,seval,↓reduceIte];rfl) (fun h2=>?_) (fun h2=>?_)
  ·refine AW.seq_k fun K hK=>AW.region (by kernel_rfl) ?_
   simp -implicitDefEqProofs only[go_sem,seval,↓reduceIte]
   refine hK _ ?_
   clear hK K
   refine AW.ret ?_
   simp -implicitDefEqProofs only[go_sem,seval,↓reduceIte]
   refine endK_some ?_
   exact ⟨by rw [hP],gx,by simp -implicitDefEqProofs only[go_sem,seval,↓reduceIte];try rfl,by simp -implicitDefEqProofs only[go_sem,seval,↓reduceIte];try rfl⟩
  ·cases h2
theorem rLast_spec (G:Nat→V) (hG:GOk G) (sl:Sl Tk) (g:Nat) (r:RS) (hr:r.nodes.length<1000000):RdS 1012 [] G 82 [] sl g r (.int .i64 r.last) r:=by
 intro gx
 refine Spec.of_code' 1000 9 [.tmp 2] Tryz.func82 rfl rfl rfl rfl fun X=>?_
 simp only [sets,rdO_K]
 refine AW.seq_k fun K hK=>AW.region (by kernel_rfl) ?_
 simp -implicitDefEqProofs only[go_sem,seval,↓reduceIte]
 refine hK _ ?_
 clear hK K
 refine AW.seq_k fun K hK=>AW.region (by kernel_rfl) ?_
 simp -implicitDefEqProofs only[go_sem,seval,↓reduceIte]
 refine hK _ ?_
 clear hK K
 refine AW.ret ?_
 simp -implicitDefEqProofs only[go_sem,seval,↓reduceIte]
 refine endK_some ?_
 exact ⟨by rw [w64 (by omega) (by omega)];rfl,gx,by simp -implicitDefEqProofs only[go_sem,seval,↓reduceIte];try rfl,by simp -implicitDefEqProofs only[go_sem,seval,↓reduceIte];try rfl⟩
theorem rPutN_spec (G:Nat→V) (hG:GOk G) (sl:Sl Tk) (g:Nat) (r:RS) (hr:r.nodes.length<1000000) (n:XN) :
  RdS 1012 [] G 83 [encXN n] sl g r (.bool true) (r.put n):=by
 intro gx
 refine Spec.of_code' 1000 15 [.tmp 4] Tryz.func83 rfl rfl rfl rfl fun X=>?_
 simp only [sets,rdO_K,encXN_K]
 refine AW.seq_k fun K hK=>AW.region (by kernel_rfl) ?_
 simp -implicitDefEqProofs only[go_sem,seval,↓reduceIte]
 intro g3
 refine hK _ ?_
 clear hK K
 refine AW.weak (Weak.stF (fun o=>o==1003) (l:=[(0,.ptr 8 g 0),(3,.view .new (encXN n))])
  (m:=[(8,rdO 1012 [] sl g gx r),(1012,ndO gx r.nodes)]) ?_ ?_) ?_
 ·simp -implicitDefEqProofs only[go_sem,seval,↓reduceIte]
  exact ⟨Fz.same _,Fz.ptr (v:=encXN n) (c := .new) (fz:=0) rfl (by simp -implicitDefEqProofs only[go_sem,seval,↓reduceIte];try rfl)⟩
 ·simp only [allFzO_cons,allFzO_nil,and_true]
  exact ⟨FzO.keep rfl (by simp -implicitDefEqProofs only[go_sem,seval,↓reduceIte];try rfl),FzO.keep rfl (by simp -implicitDefEqProofs only[go_sem,seval,↓reduceIte];try rfl)⟩
 simp only [encXN_K]
 refine AW.later ?_
 refine AW.seq_k fun K hK=>AW.regionT ⟨fun _ => .top,fun _ => .pure⟩ (by kernel_rfl) hG (by kernel_rfl) (by kernel_rfl) ?_
 simp -implicitDefEqProofs only[go_sem,seval,↓reduceIte,rdO_K]
 intro g11
 refine app_grownC (f:=encXN) (l:=r.nodes) (l2:=[n]) (g:=gx) encXN_cells rfl rfl rfl (by simp -implicitDefEqProofs only[go_sem,seval,↓reduceIte];rfl) (roomOk_of (by omega) (by simp;omega)) fun c2 g2=>?_
 simp -implicitDefEqProofs only[go_sem,seval,↓reduceIte]
 refine hK _ ?_
 clear hK K
 refine AW.seq_k fun K hK=>AW.region (by kernel_rfl) ?_
 simp -implicitDefEqProofs only[go_sem,seval,↓reduceIte]
 refine hK _ ?_
 clear hK K
 refine AW.ret ?_
 simp -implicitDefEqProofs only[go_sem,seval,↓reduceIte]
 refine ⟨st [(4,.bool true)] [(8,rdO 1012 [] sl g g2 (r.put n)),(1012,ndO g2 (r.nodes++[n]))],Weak.stF (fun _=>false) ?_ ?_,?_⟩
 ·simp -implicitDefEqProofs only[go_sem,seval,↓reduceIte]
  exact Fz.same _
 ·simp only [allFzO_cons,allFzO_nil,and_true]
  exact ⟨FzO.keep rfl (by simp -implicitDefEqProofs only[go_sem,seval,↓reduceIte];rfl),FzO.grownC (c:=c2) rfl (by simp -implicitDefEqProofs only[go_sem,seval,↓reduceIte])⟩
 ·simp -implicitDefEqProofs only[go_sem,seval,↓reduceIte]
  exact endK_some ⟨rfl,g2,by simp -implicitDefEqProofs only[go_sem,seval,↓reduceIte];rfl,by simp -implicitDefEqProofs only[go_sem,seval,↓reduceIte];rfl⟩
theorem rLeaf_spec (G:Nat→V) (hG:GOk G) (sl:Sl Tk) (g:Nat) (r:RS) (hi:r.i<1000000) (hr:r.nodes.length<1000000) (op num:Int) (name:List UInt8) (x y z:Int) :
  RdS 1012 [] G 118 [encXN ⟨op,num,name,x,y,z⟩] sl g r (.bool true) (leafP r op num name).2:=by
 intro gx
 refine Spec.of_code' 1000 18 [.tmp 4] Tryz.func118 rfl rfl rfl rfl fun X=>?_
 have hw:IntKind.i64.wrap ((r.i:Int)+1)=((r.i+1:Nat):Int):=by rw [w64 (by omega) (by omega)];omega
 simp only [sets,rdO_K,encXN_K]
 refine AW.seq_k fun K hK=>AW.region (by kernel_rfl) ?_
 simp -implicitDefEqProofs only[go_sem,seval,↓reduceIte]
 intro g3
 refine hK _ ?_
 clear hK K
 refine AW.seq_k fun K hK=>AW.region (by kernel_rfl) ?_
 simp -implicitDefEqProofs only[go_sem,seval,↓reduceIte,hw]
 refine hK _ ?_
 clear hK K
 refine AW.seq_k fun K hK=>AW.region (by kernel_rfl) ?_
 simp -implicitDefEqProofs only[go_sem,seval,↓reduceIte]
 refine hK _ ?_
 clear hK K
 refine AW.seq_k fun K hK=>AW.region (by kernel_rfl) ?_
 simp -implicitDefEqProofs only[go_sem,seval,↓reduceIte]
 refine hK _ ?_
 clear hK K
 refine AW.seq_k fun K hK=>AW.region (by kernel_rfl) ?_
 simp -implicitDefEqProofs only[go_sem,seval,↓reduceIte]
 refine hK _ ?_
 clear hK K
 refine AW.seq_k fun K hK=>AW.region (by kernel_rfl) ?_
 simp -implicitDefEqProofs only[go_sem,seval,↓reduceIte]
 rw [← encXN_K ⟨op,num,name,-1,-1,-1⟩]
 refine RdS.call hG (rPutN_spec G hG sl g r.adv hr ⟨op,num,name,-1,-1,-1⟩) (gx:=gx) (by kernel_rfl) (fun F=>rfl) (by decide) (by first | rfl | (simp -implicitDefEqProofs only[go_sem,seval,↓reduceIte,List.map_cons,List.map_nil,encXN_K];try rfl)) (by first | rfl | (simp -implicitDefEqProofs only[go_sem,seval,↓reduceIte,List.map_cons,List.map_nil];try rfl)) (by first | rfl | (simp -implicitDefEqProofs only[go_sem,seval,↓reduceIte];try rfl)) (by first | rfl | (simp -implicitDefEqProofs only[go_sem,seval,↓reduceIte];try rfl)) fun gx'=>?_
 simp -implicitDefEqProofs only[go_sem,seval,↓reduceIte,sets]
 refine hK _ ?_
 clear hK K
 refine AW.ret ?_
 simp -implicitDefEqProofs only[go_sem,seval,↓reduceIte]
 refine endK_some ?_
 exact ⟨rfl,gx',by simp -implicitDefEqProofs only[go_sem,seval,↓reduceIte];rfl,by simp -implicitDefEqProofs only[go_sem,seval,↓reduceIte];rfl⟩
theorem rEats_spec (G:Nat→V) (hG:GOk G) (sl:Sl Tk) (hT:TkOk sl.l) (g:Nat) (r:RS) (hi:r.i<1000000) (w:List UInt8) :
  RdS 1012 [] G 116 [.str w] sl g r (.bool (eatR sl.l w r).1) (eatR sl.l w r).2:=by
 intro gx
 refine Spec.of_code' 1000 19 [.tmp 4] Tryz.func116 rfl rfl rfl rfl fun X=>?_
 have hw:IntKind.i64.wrap ((r.i:Int)+1)=((r.i+1:Nat):Int):=by rw [w64 (by omega) (by omega)];omega
 have hP:eatR sl.l w r=if (nextP sl.l r.i).text≠w then (false,r.err 80) else (true,r.adv):=rfl
 refine AW.seq_k fun K hK=>AW.region (by kernel_rfl) ?_
 simp -implicitDefEqProofs only[go_sem,seval,↓reduceIte]
 refine hK _ ?_
 clear hK K
 refine AW.seq_k fun K1 hK1=>?_
 refine AW.seq_k fun K hK=>AW.region (by kernel_rfl) ?_
 simp -implicitDefEqProofs only[go_sem,seval,↓reduceIte]
 refine RdS.call hG (rNext_spec G hG sl hT g r hi) (gx:=gx) (by kernel_rfl) (fun F=>rfl) (by decide) (by first | rfl | (simp -implicitDefEqProofs only[go_sem,seval,↓reduceIte,List.map_cons,List.map_nil,encXN_K];try rfl)) (by first | rfl | (simp -implicitDefEqProofs only[go_sem,seval,↓reduceIte,List.map_cons,List.map_nil];try rfl)) (by first | rfl | (simp -implicitDefEqProofs only[go_sem,seval,↓reduceIte];try rfl)) (by first | rfl | (simp -implicitDefEqProofs only[go_sem,seval,↓reduceIte];try rfl)) fun gx'=>?_
 simp -implicitDefEqProofs only[go_sem,seval,↓reduceIte,sets]
 refine hK _ ?_
 clear hK K
 generalize nextP sl.l r.i=t at hP ⊢
 by_cases ht:t.text=w
 ·rw [if_neg (by simpa using ht)] at hP
  refine AW.condS (by simp -implicitDefEqProofs only[go_sem,seval,↓reduceIte];rfl) (fun h2=>?_) (fun h2=>?_)
  ·rw [ht] at h2;simp at h2
  ·refine AW.skip ?_
   simp -implicitDefEqProofs only[go_sem,seval,↓reduceIte]
   refine hK1 _ ?_
   refine AW.seq_k fun K hK=>AW.region (by kernel_rfl) ?_
   simp -implicitDefEqProofs only[go_sem,seval,↓reduceIte,rdO_K,hw]
   refine hK _ ?_
   clear hK K
   refine AW.seq_k fun K hK=>AW.region (by kernel_rfl) ?_
   simp -implicitDefEqProofs only[go_sem,seval,↓reduceIte]
   refine hK _ ?_
   clear hK K
   refine AW.ret ?_
   simp -implicitDefEqProofs only[go_sem,seval,↓reduceIte]
   refine endK_some ?_
   rw [hP]
   exact ⟨rfl,gx',by simp -implicitDefEqProofs only[go_sem,seval,↓reduceIte];rfl,by simp -implicitDefEqProofs only[go_sem,seval,↓reduceIte];rfl⟩
 ·rw [if_pos ht] at hP
  refine AW.condS (by simp -implicitDefEqProofs only[go_sem,seval,↓reduceIte];rfl) (fun h2=>?_) (fun h2=>?_)
  ·refine AW.seq_k fun K hK=>AW.region (by kernel_rfl) ?_
   simp -implicitDefEqProofs only[go_sem,seval,↓reduceIte,rdO_K]
   refine hK _ ?_
   clear hK K
   refine AW.seq_k fun K hK=>AW.region (by kernel_rfl) ?_
   simp -implicitDefEqProofs only[go_sem,seval,↓reduceIte]
   refine hK _ ?_
   clear hK K
   refine AW.ret ?_
   simp -implicitDefEqProofs only[go_sem,seval,↓reduceIte]
   refine endK_some ?_
   rw [hP]
   exact ⟨rfl,gx',by simp -implicitDefEqProofs only[go_sem,seval,↓reduceIte];rfl,by simp -implicitDefEqProofs only[go_sem,seval,↓reduceIte];rfl⟩
  ·have h2:t.text=w:=by simpa using h2
   exact absurd h2 ht
theorem trimR_len:∀ t:List UInt8,(trimR t).length≤t.length
 | []=>Nat.le_refl _
 | [c]=>Nat.le_refl _
 | c::d::r=>by
  rw [trimR]
  split
  ·have:=trimR_len (d::r)
   simp only [List.length_cons] at this ⊢;omega
  ·exact Nat.le_refl _
theorem u8_eq48 (c:UInt8):((c.toNat:Int)==48)=(c==48):=by
 have:=u8_all (fun c=>((c.toNat:Int)==48)==(c==48)) (by decide +kernel) c
 simpa using this
theorem rNumber_spec (G:Nat→V) (hG:GOk G) (sl:Sl Tk) (g:Nat) (r:RS) (hi:r.i<1000000) (hr:r.nodes.length<1000000) (t:List UInt8) (ht:t.length<100000) :
  RdS 1012 [] G 119 [.str t] sl g r (.bool (numberR r t).1) (numberR r t).2:=by
 intro gx
 refine Spec.of_code' 1000 31 [.tmp 4] Tryz.func119 rfl rfl rfl rfl fun X=>?_
 have hP:numberR r t=if (parseR (trimR t)).2≠0 then (false,r.err 60) else leafP r 1 (parseR (trimR t)).1 []:=rfl
 have hl:=trimR_len t
 refine AW.seq_k fun K hK=>AW.region (by kernel_rfl) ?_
 simp -implicitDefEqProofs only[go_sem,seval,↓reduceIte]
 refine hK _ ?_
 clear hK K
 refine AW.seqJ (fun (_:Unit)=>st [(0,.ptr 8 g 0),(1,.str (trimR t))] [(8,rdO 1012 [] sl g gx r),(1012,ndO gx r.nodes)]) (fun _=>True) (fun K1 hK1=>?_) ?_
 ·refine AW.block ?_
  refine AW.while (fun (s:List UInt8)=>st [(0,.ptr 8 g 0),(1,.str s)] [(8,rdO 1012 [] sl g gx r),(1012,ndO gx r.nodes)])
   (fun s=>trimR s=trimR t∧s.length≤t.length) (fun s=>s.length) t ⟨rfl,Nat.le_refl _⟩ (Weak.st (by simp -implicitDefEqProofs only[go_sem,seval,↓reduceIte];try rfl) (by simp -implicitDefEqProofs only[go_sem,seval,↓reduceIte,sets];try rfl)) ?_
  rintro s ⟨hs,hsl⟩ L2 hL2
  refine AW.seq_k fun K3 hK3=>?_
  by_cases hlen:s.length > 1
  rotate_left
  ·have h1:decide ((s.length:Int) > 1)=false:=by rw [decide_eq_false_iff_not];omega
   have he:trimR s=s:=by
    match s,hlen with
    | [],_=>rfl
    | [c],_=>rfl
    | c::d::r,h=>simp at h
   refine AW.seq_k fun K hK=>AW.region (by kernel_rfl) ?_
   simp -implicitDefEqProofs only[go_sem,seval,↓reduceIte,h1]
   refine hK _ ?_
   clear hK K
   refine AW.condS (by simp -implicitDefEqProofs only[go_sem,seval,↓reduceIte];rfl) (fun h14=>?_) (fun h14=>?_)
   ·cases h14
   refine AW.exit ?_
   simp -implicitDefEqProofs only[go_sem,seval,↓reduceIte]
   exact hK1 _ () trivial (Weak.st (by rw [← hs,he];simp -implicitDefEqProofs only[go_sem,seval,↓reduceIte];try rfl) (by simp -implicitDefEqProofs only[go_sem,seval,↓reduceIte];try rfl))
  have h1:decide ((s.length:Int) > 1)=true:=by rw [decide_eq_true_iff];omega
  obtain ⟨c,d,q,hq⟩:∃ c d q,s=c::d::q:=by
   match s,hlen with
   | c::d::q,_=>exact ⟨c,d,q,rfl⟩
  have hg:s[0]? = some c:=by rw [hq];rfl
  have hdr:(s.drop 1).take (s.length-1)=d::q:=by rw [hq];simp
  have hT:trimR s=if c=48 then trimR (d::q) else s:=by rw [hq];rfl
  have hll:(d::q).length+1=s.length:=by rw [hq];simp
  by_cases hc:c=48
  ·have e1:(c==48)=true:=by simpa using hc
   rw [if_pos hc] at hT
   refine AW.seq_k fun K hK=>AW.region (by kernel_rfl) ?_
   simp -implicitDefEqProofs only[go_sem,seval,↓reduceIte,h1,hg,u8_eq48,e1]
   refine hK _ ?_
   clear hK K
   refine AW.condS (by simp -implicitDefEqProofs only[go_sem,seval,↓reduceIte];rfl) (fun h14=>?_) (fun h14=>?_)
   rotate_left
   ·cases h14
   refine AW.skip ?_
   simp -implicitDefEqProofs only[go_sem,seval,↓reduceIte]
   refine hK3 _ ?_
   refine AW.block ?_
   have hb:1≤s.length:=by omega
   refine AW.region (by kernel_rfl) ?_
   simp -implicitDefEqProofs only[go_sem,seval,↓reduceIte,hb,hdr,Nat.le_refl]
   exact hL2 _ ⟨d::q,by omega,⟨by rw [← hT];exact hs,by omega⟩,Weak.st (by simp -implicitDefEqProofs only[go_sem,seval,↓reduceIte];try rfl) (by simp -implicitDefEqProofs only[go_sem,seval,↓reduceIte];try rfl)⟩
  ·have e1:(c==48)=false:=by simpa using hc
   rw [if_neg hc] at hT
   refine AW.seq_k fun K hK=>AW.region (by kernel_rfl) ?_
   simp -implicitDefEqProofs only[go_sem,seval,↓reduceIte,h1,hg,u8_eq48,e1]
   refine hK _ ?_
   clear hK K
   refine AW.condS (by simp -implicitDefEqProofs only[go_sem,seval,↓reduceIte];rfl) (fun h14=>?_) (fun h14=>?_)
   ·cases h14
   refine AW.exit ?_
   simp -implicitDefEqProofs only[go_sem,seval,↓reduceIte]
   exact hK1 _ () trivial (Weak.st (by rw [← hs,hT];simp -implicitDefEqProofs only[go_sem,seval,↓reduceIte];try rfl) (by simp -implicitDefEqProofs only[go_sem,seval,↓reduceIte];try rfl))
 intro _ _
 generalize trimR t=s at hP hl ⊢
 refine AW.seq_k fun K hK=>AW.region (by kernel_rfl) ?_
 simp -implicitDefEqProofs only[go_sem,seval,↓reduceIte]
 refine CallA.pure hG (by kernel_rfl) ?_
 simp -implicitDefEqProofs only[go_sem,seval,↓reduceIte]
 refine (rParse_spec G hG s (by omega)).mono ?_
 rintro _ _ rfl
 generalize parseR s=q at hP ⊢
 obtain ⟨n,e⟩:=q
 simp only at hP
 simp -implicitDefEqProofs only[go_sem,seval,↓reduceIte,encR]
 refine hK _ ?_
 clear hK K
 refine AW.seq_k fun K3 hK3=>?_
 by_cases he:e=0
 ·have e1:(e==0)=true:=by simpa using he
  rw [if_neg (show ¬ e≠0 by simpa using he)] at hP
  refine AW.seq_k fun K hK=>AW.region (by kernel_rfl) ?_
  simp -implicitDefEqProofs only[go_sem,seval,↓reduceIte,bne,e1]
  refine hK _ ?_
  clear hK K
  refine AW.condS (by simp -implicitDefEqProofs only[go_sem,seval,↓reduceIte];rfl) (fun h4=>?_) (fun h4=>?_)
  ·cases h4
  ·refine AW.skip ?_
   simp -implicitDefEqProofs only[go_sem,seval,↓reduceIte]
   refine hK3 _ ?_
   refine AW.seq_k fun K hK=>AW.region (by kernel_rfl) ?_
   simp -implicitDefEqProofs only[go_sem,seval,↓reduceIte]
   rw [← encXN_K ⟨1,n,[],0,0,0⟩]
   refine RdS.call hG (rLeaf_spec G hG sl g r hi hr 1 n [] 0 0 0) (gx:=gx) (by kernel_rfl) (fun F=>rfl) (by decide) (by first | rfl | (simp -implicitDefEqProofs only[go_sem,seval,↓reduceIte,List.map_cons,List.map_nil,encXN_K];try rfl)) (by first | rfl | (simp -implicitDefEqProofs only[go_sem,seval,↓reduceIte,List.map_cons,List.map_nil];try rfl)) (by first | rfl | (simp -implicitDefEqProofs only[go_sem,seval,↓reduceIte];try rfl)) (by first | rfl | (simp -implicitDefEqProofs only[go_sem,seval,↓reduceIte];try rfl)) fun gx'=>?_
   simp -implicitDefEqProofs only[go_sem,seval,↓reduceIte,sets]
   refine hK _ ?_
   clear hK K
   refine AW.ret ?_
   simp -implicitDefEqProofs only[go_sem,seval,↓reduceIte]
   refine endK_some ?_
   rw [hP]
   exact ⟨rfl,gx',by simp -implicitDefEqProofs only[go_sem,seval,↓reduceIte];try rfl,by simp -implicitDefEqProofs only[go_sem,seval,↓reduceIte];try rfl⟩
 ·have e1:(e==0)=false:=by simpa using he
  rw [if_pos he] at hP
  refine AW.seq_k fun K hK=>AW.region (by kernel_rfl) ?_
  simp -implicitDefEqProofs only[go_sem,seval,↓reduceIte,bne,e1]
  refine hK _ ?_
  clear hK K
  refine AW.condS (by simp -implicitDefEqProofs only[go_sem,seval,↓reduceIte];rfl) (fun h4=>?_) (fun h4=>?_)
  ·refine AW.seq_k fun K hK=>AW.region (by kernel_rfl) ?_
   simp -implicitDefEqProofs only[go_sem,seval,↓reduceIte,rdO_K]
   refine hK _ ?_
   clear hK K
   refine AW.seq_k fun K hK=>AW.region (by kernel_rfl) ?_
   simp -implicitDefEqProofs only[go_sem,seval,↓reduceIte]
   refine hK _ ?_
   clear hK K
   refine AW.ret ?_
   simp -implicitDefEqProofs only[go_sem,seval,↓reduceIte]
   refine endK_some ?_
   rw [hP]
   exact ⟨rfl,gx,by simp -implicitDefEqProofs only[go_sem,seval,↓reduceIte];try rfl,by simp -implicitDefEqProofs only[go_sem,seval,↓reduceIte];try rfl⟩
  ·cases h4
end Go.Hs
end

section
namespace Go.Hs
open Go.Proofs
set_option maxRecDepth 10000
structure InnR (G:Nat→V) (sl:Sl Tk) (g:Nat) (inner:Inner) (i0:Nat):Prop where
 lev:∀ n r,1≤n→n≤9→i0<r.i→RSok sl.l r→RdS 1012 [] G 57 [.int .i64 n] sl g r (.bool (inner n r).1) (inner n r).2
 un:∀ r,i0<r.i→RSok sl.l r→RdS 1012 [] G 80 [] sl g r (.bool (inner 9 r).1) (inner 9 r).2
theorem nextP_ln {l:List Tk} (hT:TkOk l) (i:Nat):(nextP l i).text.length<100000:=by
 unfold nextP
 split
 ·rename_i t h
  split
  ·exact hT.text _ (List.mem_of_getElem? h)
  ·exact Nat.zero_lt_succ _
 ·exact Nat.zero_lt_succ _
theorem eatR_bal (l:List Tk) {w:List UInt8} (hw:isP w≠0) (r:RS):Bal l 0 r (eatR l w r).2∧((eatR l w r).1=true→Bal l 1 r (eatR l w r).2)∧((eatR l w r).1=true→(eatR l w r).2=r.adv):=by
 rw [eat_eq l hw]
 refine ⟨(eatP_bal l w r).1,(eatP_bal l w r).2,?_⟩
 unfold eatP
 split
 ·intro h;cases h
 ·exact fun _=>rfl
theorem rBranches_spec (G:Nat→V) (hG:GOk G) (sl:Sl Tk) (hT:TkOk sl.l) (g:Nat) (r:RS) (hr:RSok sl.l r) (hlt:r.i<sl.l.length) (inner:Inner) (hin:InnR G sl g inner r.i) (hb:Bals sl.l inner) :
  RdS 1012 [] G 117 [] sl g r (.bool (branchesR sl.l inner r).1) (branchesR sl.l inner r).2:=by
 have hTl:=hT.len
 intro gx
 refine Spec.of_code' 1000 47 [.tmp 2] Tryz.func117 rfl rfl rfl rfl fun X=>?_
 have hP:branchesR sl.l inner r=andThen (inner 1 r.adv) fun a=>andThen (eatR sl.l wThen a) fun r2=>andThen (inner 1 r2) fun b =>
  andThen (eatR sl.l wElse b) fun r3=>andThen (inner 1 r3) fun c=>andThen (eatR sl.l wEndif c) fun r4=>(true,r4.put ⟨22,0,[],a.last,b.last,c.last⟩):=rfl
 generalize branchesR sl.l inner r=res at hP ⊢
 have had:RSok sl.l r.adv:=(Bal.adv hlt).ok hr
 have hw:IntKind.i64.wrap ((r.i:Int)+1)=((r.i+1:Nat):Int):=by rw [w64 (by omega) (by omega)];omega
 have c1:=hin.lev 1 r.adv (by decide) (by decide) (Nat.lt_succ_self _) had
 have b1:=hb 1 r.adv
 generalize inner 1 r.adv=x1 at hP c1 b1
 obtain ⟨t1,a⟩:=x1
 simp only at c1 b1
 have ha:=b1.ok had
 have hau:r.i+1≤a.i:=b1.up
 refine AW.seq_k fun K hK=>AW.region (by kernel_rfl) ?_
 simp -implicitDefEqProofs only[go_sem,seval,↓reduceIte]
 refine hK _ ?_
 clear hK K
 refine AW.seq_k fun K hK=>AW.region (by kernel_rfl) ?_
 simp -implicitDefEqProofs only[go_sem,seval,↓reduceIte,rdO_K,hw]
 refine hK _ ?_
 clear hK K
 refine AW.seq_k fun K1 hK1=>?_
 cases t1 with
 | false =>
  rw [andThen_false] at hP
  refine AW.seq_k fun K hK=>AW.region (by kernel_rfl) ?_
  simp -implicitDefEqProofs only[go_sem,seval,↓reduceIte,rdO_K]
  refine RdS.call hG (c1) (gx:=gx) (by kernel_rfl) (fun F=>rfl) (by decide) (by first | rfl | (simp -implicitDefEqProofs only[go_sem,seval,↓reduceIte,List.map_cons,List.map_nil,encXN_K];try rfl)) (by first | rfl | (simp -implicitDefEqProofs only[go_sem,seval,↓reduceIte,List.map_cons,List.map_nil];try rfl)) (by first | rfl | (simp -implicitDefEqProofs only[go_sem,seval,↓reduceIte];try rfl)) (by first | rfl | (simp -implicitDefEqProofs only[go_sem,seval,↓reduceIte];try rfl)) fun gx1=>?_
  simp -implicitDefEqProofs only[go_sem,seval,↓reduceIte,sets]
  refine hK _ ?_
  clear hK K
  refine AW.condS (by simp -implicitDefEqProofs only[go_sem,seval,↓reduceIte];rfl) (fun h19=>?_) (fun h19=>?_)
  ·refine AW.seq_k fun K hK=>AW.region (by kernel_rfl) ?_
   simp -implicitDefEqProofs only[go_sem,seval,↓reduceIte]
   refine hK _ ?_
   clear hK K
   refine AW.ret ?_
   simp -implicitDefEqProofs only[go_sem,seval,↓reduceIte]
   refine endK_some ?_
   rw [hP]
   exact ⟨rfl,gx1,by first | rfl | (simp -implicitDefEqProofs only[go_sem,seval,↓reduceIte];try rfl),by first | rfl | (simp -implicitDefEqProofs only[go_sem,seval,↓reduceIte];try rfl)⟩
  ·cases h19
 | true =>
 rw [andThen_true] at hP
 have hai:a.i<1000000:=by have:=ha.1;omega
 have han:a.nodes.length<1000000:=by have:=ha.1;have:=ha.2;omega
 have c2:=rEats_spec G hG sl hT g a hai wThen
 have b2:=eatR_bal sl.l (w:=wThen) (by decide +kernel) a
 generalize eatR sl.l wThen a=x2 at hP c2 b2
 obtain ⟨t2,r2⟩:=x2
 simp only at c2 b2
 cases t2 with
 | false =>
  rw [andThen_false] at hP
  refine AW.seq_k fun K hK=>AW.region (by kernel_rfl) ?_
  simp -implicitDefEqProofs only[go_sem,seval,↓reduceIte,rdO_K]
  refine RdS.call hG (c1) (gx:=gx) (by kernel_rfl) (fun F=>rfl) (by decide) (by first | rfl | (simp -implicitDefEqProofs only[go_sem,seval,↓reduceIte,List.map_cons,List.map_nil,encXN_K];try rfl)) (by first | rfl | (simp -implicitDefEqProofs only[go_sem,seval,↓reduceIte,List.map_cons,List.map_nil];try rfl)) (by first | rfl | (simp -implicitDefEqProofs only[go_sem,seval,↓reduceIte];try rfl)) (by first | rfl | (simp -implicitDefEqProofs only[go_sem,seval,↓reduceIte];try rfl)) fun gx1=>?_
  simp -implicitDefEqProofs only[go_sem,seval,↓reduceIte,sets]
  simp -implicitDefEqProofs only[go_sem,seval,↓reduceIte,rdO_K]
  refine RdS.call hG (c2) (gx:=gx1) (by kernel_rfl) (fun F=>rfl) (by decide) (by first | rfl | (simp -implicitDefEqProofs only[go_sem,seval,↓reduceIte,List.map_cons,List.map_nil,encXN_K];try rfl)) (by first | rfl | (simp -implicitDefEqProofs only[go_sem,seval,↓reduceIte,List.map_cons,List.map_nil];try rfl)) (by first | rfl | (simp -implicitDefEqProofs only[go_sem,seval,↓reduceIte];try rfl)) (by first | rfl | (simp -implicitDefEqProofs only[go_sem,seval,↓reduceIte];try rfl)) fun gx2=>?_
  simp -implicitDefEqProofs only[go_sem,seval,↓reduceIte,sets]
  refine hK _ ?_
  clear hK K
  refine AW.condS (by simp -implicitDefEqProofs only[go_sem,seval,↓reduceIte];rfl) (fun h19=>?_) (fun h19=>?_)
  ·refine AW.seq_k fun K hK=>AW.region (by kernel_rfl) ?_
   simp -implicitDefEqProofs only[go_sem,seval,↓reduceIte]
   refine hK _ ?_
   clear hK K
   refine AW.ret ?_
   simp -implicitDefEqProofs only[go_sem,seval,↓reduceIte]
   refine endK_some ?_
   rw [hP]
   exact ⟨rfl,gx2,by first | rfl | (simp -implicitDefEqProofs only[go_sem,seval,↓reduceIte];try rfl),by first | rfl | (simp -implicitDefEqProofs only[go_sem,seval,↓reduceIte];try rfl)⟩
  ·cases h19
 | true =>
 rw [andThen_true] at hP
 have hr2:=(b2.2.1 rfl).ok ha
 have e2:=b2.2.2 rfl
 have h2n:r2.nodes=a.nodes:=by rw [e2];rfl
 have h2l:r2.last=a.last:=by rw [e2];rfl
 have h2i:r2.i=a.i+1:=by rw [e2];rfl
 have c3:=hin.lev 1 r2 (by decide) (by decide) (by omega) hr2
 have b3:=hb 1 r2
 generalize inner 1 r2=x3 at hP c3 b3
 obtain ⟨t3,b⟩:=x3
 simp only at c3 b3
 have hbo:=b3.ok hr2
 have hbu:r2.i≤b.i:=b3.up
 have hbi:b.i<1000000:=by have:=hbo.1;omega
 have hbn:b.nodes.length<1000000:=by have:=hbo.1;have:=hbo.2;omega
 refine AW.seq_k fun K hK=>AW.region (by kernel_rfl) ?_
 simp -implicitDefEqProofs only[go_sem,seval,↓reduceIte,rdO_K]
 refine RdS.call hG (c1) (gx:=gx) (by kernel_rfl) (fun F=>rfl) (by decide) (by first | rfl | (simp -implicitDefEqProofs only[go_sem,seval,↓reduceIte,List.map_cons,List.map_nil,encXN_K];try rfl)) (by first | rfl | (simp -implicitDefEqProofs only[go_sem,seval,↓reduceIte,List.map_cons,List.map_nil];try rfl)) (by first | rfl | (simp -implicitDefEqProofs only[go_sem,seval,↓reduceIte];try rfl)) (by first | rfl | (simp -implicitDefEqProofs only[go_sem,seval,↓reduceIte];try rfl)) fun gx1=>?_
 simp -implicitDefEqProofs only[go_sem,seval,↓reduceIte,sets]
 simp -implicitDefEqProofs only[go_sem,seval,↓reduceIte,rdO_K]
 refine RdS.call hG (c2) (gx:=gx1) (by kernel_rfl) (fun F=>rfl) (by decide) (by first | rfl | (simp -implicitDefEqProofs only[go_sem,seval,↓reduceIte,List.map_cons,List.map_nil,encXN_K];try rfl)) (by first | rfl | (simp -implicitDefEqProofs only[go_sem,seval,↓reduceIte,List.map_cons,List.map_nil];try rfl)) (by first | rfl | (simp -implicitDefEqProofs only[go_sem,seval,↓reduceIte];try rfl)) (by first | rfl | (simp -implicitDefEqProofs only[go_sem,seval,↓reduceIte];try rfl)) fun gx2=>?_
 simp -implicitDefEqProofs only[go_sem,seval,↓reduceIte,sets]
 refine hK _ ?_
 clear hK K
 refine AW.condS (by simp -implicitDefEqProofs only[go_sem,seval,↓reduceIte];rfl) (fun h19=>?_) (fun h19=>?_)
 ·cases h19
 refine AW.skip ?_
 simp -implicitDefEqProofs only[go_sem,seval,↓reduceIte]
 refine hK1 _ ?_
 refine AW.seq_k fun K hK=>AW.region (by kernel_rfl) ?_
 simp -implicitDefEqProofs only[go_sem,seval,↓reduceIte,rdO_K]
 have h2nn:r2.nodes.length<1000000:=by rw [h2n];exact han
 refine RdS.call hG (rLast_spec G hG sl g r2 h2nn) (gx:=gx2) (by kernel_rfl) (fun F=>rfl) (by decide) (by first | rfl | (simp -implicitDefEqProofs only[go_sem,seval,↓reduceIte,List.map_cons,List.map_nil,encXN_K];try rfl)) (by first | rfl | (simp -implicitDefEqProofs only[go_sem,seval,↓reduceIte,List.map_cons,List.map_nil];try rfl)) (by first | rfl | (simp -implicitDefEqProofs only[go_sem,seval,↓reduceIte];try rfl)) (by first | rfl | (simp -implicitDefEqProofs only[go_sem,seval,↓reduceIte];try rfl)) fun gx3=>?_
 simp -implicitDefEqProofs only[go_sem,seval,↓reduceIte,sets]
 rw [h2l]
 refine hK _ ?_
 clear hK K
 refine AW.seq_k fun K2 hK2=>?_
 cases t3 with
 | false =>
  rw [andThen_false] at hP
  refine AW.seq_k fun K hK=>AW.region (by kernel_rfl) ?_
  simp -implicitDefEqProofs only[go_sem,seval,↓reduceIte,rdO_K]
  refine RdS.call hG (c3) (gx:=gx3) (by kernel_rfl) (fun F=>rfl) (by decide) (by first | rfl | (simp -implicitDefEqProofs only[go_sem,seval,↓reduceIte,List.map_cons,List.map_nil,encXN_K];try rfl)) (by first | rfl | (simp -implicitDefEqProofs only[go_sem,seval,↓reduceIte,List.map_cons,List.map_nil];try rfl)) (by first | rfl | (simp -implicitDefEqProofs only[go_sem,seval,↓reduceIte];try rfl)) (by first | rfl | (simp -implicitDefEqProofs only[go_sem,seval,↓reduceIte];try rfl)) fun gx4=>?_
  simp -implicitDefEqProofs only[go_sem,seval,↓reduceIte,sets]
  refine hK _ ?_
  clear hK K
  refine AW.condS (by simp -implicitDefEqProofs only[go_sem,seval,↓reduceIte];rfl) (fun h29=>?_) (fun h29=>?_)
  ·refine AW.seq_k fun K hK=>AW.region (by kernel_rfl) ?_
   simp -implicitDefEqProofs only[go_sem,seval,↓reduceIte]
   refine hK _ ?_
   clear hK K
   refine AW.ret ?_
   simp -implicitDefEqProofs only[go_sem,seval,↓reduceIte]
   refine endK_some ?_
   rw [hP]
   exact ⟨rfl,gx4,by first | rfl | (simp -implicitDefEqProofs only[go_sem,seval,↓reduceIte];try rfl),by first | rfl | (simp -implicitDefEqProofs only[go_sem,seval,↓reduceIte];try rfl)⟩
  ·cases h29
 | true =>
 rw [andThen_true] at hP
 have c4:=rEats_spec G hG sl hT g b hbi wElse
 have b4:=eatR_bal sl.l (w:=wElse) (by decide +kernel) b
 generalize eatR sl.l wElse b=x4 at hP c4 b4
 obtain ⟨t4,r3⟩:=x4
 simp only at c4 b4
 cases t4 with
 | false =>
  rw [andThen_false] at hP
  refine AW.seq_k fun K hK=>AW.region (by kernel_rfl) ?_
  simp -implicitDefEqProofs only[go_sem,seval,↓reduceIte,rdO_K]
  refine RdS.call hG (c3) (gx:=gx3) (by kernel_rfl) (fun F=>rfl) (by decide) (by first | rfl | (simp -implicitDefEqProofs only[go_sem,seval,↓reduceIte,List.map_cons,List.map_nil,encXN_K];try rfl)) (by first | rfl | (simp -implicitDefEqProofs only[go_sem,seval,↓reduceIte,List.map_cons,List.map_nil];try rfl)) (by first | rfl | (simp -implicitDefEqProofs only[go_sem,seval,↓reduceIte];try rfl)) (by first | rfl | (simp -implicitDefEqProofs only[go_sem,seval,↓reduceIte];try rfl)) fun gx4=>?_
  simp -implicitDefEqProofs only[go_sem,seval,↓reduceIte,sets]
  simp -implicitDefEqProofs only[go_sem,seval,↓reduceIte,rdO_K]
  refine RdS.call hG (c4) (gx:=gx4) (by kernel_rfl) (fun F=>rfl) (by decide) (by first | rfl | (simp -implicitDefEqProofs only[go_sem,seval,↓reduceIte,List.map_cons,List.map_nil,encXN_K];try rfl)) (by first | rfl | (simp -implicitDefEqProofs only[go_sem,seval,↓reduceIte,List.map_cons,List.map_nil];try rfl)) (by first | rfl | (simp -implicitDefEqProofs only[go_sem,seval,↓reduceIte];try rfl)) (by first | rfl | (simp -implicitDefEqProofs only[go_sem,seval,↓reduceIte];try rfl)) fun gx5=>?_
  simp -implicitDefEqProofs only[go_sem,seval,↓reduceIte,sets]
  refine hK _ ?_
  clear hK K
  refine AW.condS (by simp -implicitDefEqProofs only[go_sem,seval,↓reduceIte];rfl) (fun h29=>?_) (fun h29=>?_)
  ·refine AW.seq_k fun K hK=>AW.region (by kernel_rfl) ?_
   simp -implicitDefEqProofs only[go_sem,seval,↓reduceIte]
   refine hK _ ?_
   clear hK K
   refine AW.ret ?_
   simp -implicitDefEqProofs only[go_sem,seval,↓reduceIte]
   refine endK_some ?_
   rw [hP]
   exact ⟨rfl,gx5,by first | rfl | (simp -implicitDefEqProofs only[go_sem,seval,↓reduceIte];try rfl),by first | rfl | (simp -implicitDefEqProofs only[go_sem,seval,↓reduceIte];try rfl)⟩
  ·cases h29
 | true =>
 rw [andThen_true] at hP
 have hr3:=(b4.2.1 rfl).ok hbo
 have e3:=b4.2.2 rfl
 have h3n:r3.nodes=b.nodes:=by rw [e3];rfl
 have h3l:r3.last=b.last:=by rw [e3];rfl
 have h3i:r3.i=b.i+1:=by rw [e3];rfl
 have c5:=hin.lev 1 r3 (by decide) (by decide) (by omega) hr3
 have b5:=hb 1 r3
 generalize inner 1 r3=x5 at hP c5 b5
 obtain ⟨t5,c⟩:=x5
 simp only at c5 b5
 have hco:=b5.ok hr3
 have hci:c.i<1000000:=by have:=hco.1;omega
 refine AW.seq_k fun K hK=>AW.region (by kernel_rfl) ?_
 simp -implicitDefEqProofs only[go_sem,seval,↓reduceIte,rdO_K]
 refine RdS.call hG (c3) (gx:=gx3) (by kernel_rfl) (fun F=>rfl) (by decide) (by first | rfl | (simp -implicitDefEqProofs only[go_sem,seval,↓reduceIte,List.map_cons,List.map_nil,encXN_K];try rfl)) (by first | rfl | (simp -implicitDefEqProofs only[go_sem,seval,↓reduceIte,List.map_cons,List.map_nil];try rfl)) (by first | rfl | (simp -implicitDefEqProofs only[go_sem,seval,↓reduceIte];try rfl)) (by first | rfl | (simp -implicitDefEqProofs only[go_sem,seval,↓reduceIte];try rfl)) fun gx4=>?_
 simp -implicitDefEqProofs only[go_sem,seval,↓reduceIte,sets]
 simp -implicitDefEqProofs only[go_sem,seval,↓reduceIte,rdO_K]
 refine RdS.call hG (c4) (gx:=gx4) (by kernel_rfl) (fun F=>rfl) (by decide) (by first | rfl | (simp -implicitDefEqProofs only[go_sem,seval,↓reduceIte,List.map_cons,List.map_nil,encXN_K];try rfl)) (by first | rfl | (simp -implicitDefEqProofs only[go_sem,seval,↓reduceIte,List.map_cons,List.map_nil];try rfl)) (by first | rfl | (simp -implicitDefEqProofs only[go_sem,seval,↓reduceIte];try rfl)) (by first | rfl | (simp -implicitDefEqProofs only[go_sem,seval,↓reduceIte];try rfl)) fun gx5=>?_
 simp -implicitDefEqProofs only[go_sem,seval,↓reduceIte,sets]
 refine hK _ ?_
 clear hK K
 refine AW.condS (by simp -implicitDefEqProofs only[go_sem,seval,↓reduceIte];rfl) (fun h29=>?_) (fun h29=>?_)
 ·cases h29
 refine AW.skip ?_
 simp -implicitDefEqProofs only[go_sem,seval,↓reduceIte]
 refine hK2 _ ?_
 refine AW.seq_k fun K hK=>AW.region (by kernel_rfl) ?_
 simp -implicitDefEqProofs only[go_sem,seval,↓reduceIte,rdO_K]
 have h3nn:r3.nodes.length<1000000:=by rw [h3n];exact hbn
 refine RdS.call hG (rLast_spec G hG sl g r3 h3nn) (gx:=gx5) (by kernel_rfl) (fun F=>rfl) (by decide) (by first | rfl | (simp -implicitDefEqProofs only[go_sem,seval,↓reduceIte,List.map_cons,List.map_nil,encXN_K];try rfl)) (by first | rfl | (simp -implicitDefEqProofs only[go_sem,seval,↓reduceIte,List.map_cons,List.map_nil];try rfl)) (by first | rfl | (simp -implicitDefEqProofs only[go_sem,seval,↓reduceIte];try rfl)) (by first | rfl | (simp -implicitDefEqProofs only[go_sem,seval,↓reduceIte];try rfl)) fun gx6=>?_
 simp -implicitDefEqProofs only[go_sem,seval,↓reduceIte,sets]
 rw [h3l]
 refine hK _ ?_
 clear hK K
 cases t5 with
 | false =>
  rw [andThen_false] at hP
  refine AW.seq_k fun K hK=>AW.region (by kernel_rfl) ?_
  simp -implicitDefEqProofs only[go_sem,seval,↓reduceIte,rdO_K]
  refine RdS.call hG (c5) (gx:=gx6) (by kernel_rfl) (fun F=>rfl) (by decide) (by first | rfl | (simp -implicitDefEqProofs only[go_sem,seval,↓reduceIte,List.map_cons,List.map_nil,encXN_K];try rfl)) (by first | rfl | (simp -implicitDefEqProofs only[go_sem,seval,↓reduceIte,List.map_cons,List.map_nil];try rfl)) (by first | rfl | (simp -implicitDefEqProofs only[go_sem,seval,↓reduceIte];try rfl)) (by first | rfl | (simp -implicitDefEqProofs only[go_sem,seval,↓reduceIte];try rfl)) fun gx7=>?_
  simp -implicitDefEqProofs only[go_sem,seval,↓reduceIte,sets]
  refine hK _ ?_
  clear hK K
  refine AW.ret ?_
  simp -implicitDefEqProofs only[go_sem,seval,↓reduceIte]
  refine endK_some ?_
  rw [hP]
  exact ⟨rfl,gx7,by first | rfl | (simp -implicitDefEqProofs only[go_sem,seval,↓reduceIte];try rfl),by first | rfl | (simp -implicitDefEqProofs only[go_sem,seval,↓reduceIte];try rfl)⟩
 | true =>
 rw [andThen_true] at hP
 have c6:=rEats_spec G hG sl hT g c hci wEndif
 have b6:=eatR_bal sl.l (w:=wEndif) (by decide +kernel) c
 generalize eatR sl.l wEndif c=x6 at hP c6 b6
 obtain ⟨t6,r4⟩:=x6
 simp only at c6 b6
 cases t6 with
 | false =>
  rw [andThen_false] at hP
  refine AW.seq_k fun K hK=>AW.region (by kernel_rfl) ?_
  simp -implicitDefEqProofs only[go_sem,seval,↓reduceIte,rdO_K]
  refine RdS.call hG (c5) (gx:=gx6) (by kernel_rfl) (fun F=>rfl) (by decide) (by first | rfl | (simp -implicitDefEqProofs only[go_sem,seval,↓reduceIte,List.map_cons,List.map_nil,encXN_K];try rfl)) (by first | rfl | (simp -implicitDefEqProofs only[go_sem,seval,↓reduceIte,List.map_cons,List.map_nil];try rfl)) (by first | rfl | (simp -implicitDefEqProofs only[go_sem,seval,↓reduceIte];try rfl)) (by first | rfl | (simp -implicitDefEqProofs only[go_sem,seval,↓reduceIte];try rfl)) fun gx7=>?_
  simp -implicitDefEqProofs only[go_sem,seval,↓reduceIte,sets]
  simp -implicitDefEqProofs only[go_sem,seval,↓reduceIte,rdO_K]
  refine RdS.call hG (c6) (gx:=gx7) (by kernel_rfl) (fun F=>rfl) (by decide) (by first | rfl | (simp -implicitDefEqProofs only[go_sem,seval,↓reduceIte,List.map_cons,List.map_nil,encXN_K];try rfl)) (by first | rfl | (simp -implicitDefEqProofs only[go_sem,seval,↓reduceIte,List.map_cons,List.map_nil];try rfl)) (by first | rfl | (simp -implicitDefEqProofs only[go_sem,seval,↓reduceIte];try rfl)) (by first | rfl | (simp -implicitDefEqProofs only[go_sem,seval,↓reduceIte];try rfl)) fun gx8=>?_
  simp -implicitDefEqProofs only[go_sem,seval,↓reduceIte,sets]
  refine hK _ ?_
  clear hK K
  refine AW.ret ?_
  simp -implicitDefEqProofs only[go_sem,seval,↓reduceIte]
  refine endK_some ?_
  rw [hP]
  exact ⟨rfl,gx8,by first | rfl | (simp -implicitDefEqProofs only[go_sem,seval,↓reduceIte];try rfl),by first | rfl | (simp -implicitDefEqProofs only[go_sem,seval,↓reduceIte];try rfl)⟩
 | true =>
 rw [andThen_true] at hP
 have hr4:=(b6.2.1 rfl).ok hco
 have e4:=b6.2.2 rfl
 have h4l:r4.last=c.last:=by rw [e4];rfl
 have h4n:r4.nodes.length<1000000:=by have:=hr4.1;have:=hr4.2;omega
 refine AW.seq_k fun K hK=>AW.region (by kernel_rfl) ?_
 simp -implicitDefEqProofs only[go_sem,seval,↓reduceIte,rdO_K]
 refine RdS.call hG (c5) (gx:=gx6) (by kernel_rfl) (fun F=>rfl) (by decide) (by first | rfl | (simp -implicitDefEqProofs only[go_sem,seval,↓reduceIte,List.map_cons,List.map_nil,encXN_K];try rfl)) (by first | rfl | (simp -implicitDefEqProofs only[go_sem,seval,↓reduceIte,List.map_cons,List.map_nil];try rfl)) (by first | rfl | (simp -implicitDefEqProofs only[go_sem,seval,↓reduceIte];try rfl)) (by first | rfl | (simp -implicitDefEqProofs only[go_sem,seval,↓reduceIte];try rfl)) fun gx7=>?_
 simp -implicitDefEqProofs only[go_sem,seval,↓reduceIte,sets]
 simp -implicitDefEqProofs only[go_sem,seval,↓reduceIte,rdO_K]
 refine RdS.call hG (c6) (gx:=gx7) (by kernel_rfl) (fun F=>rfl) (by decide) (by first | rfl | (simp -implicitDefEqProofs only[go_sem,seval,↓reduceIte,List.map_cons,List.map_nil,encXN_K];try rfl)) (by first | rfl | (simp -implicitDefEqProofs only[go_sem,seval,↓reduceIte,List.map_cons,List.map_nil];try rfl)) (by first | rfl | (simp -implicitDefEqProofs only[go_sem,seval,↓reduceIte];try rfl)) (by first | rfl | (simp -implicitDefEqProofs only[go_sem,seval,↓reduceIte];try rfl)) fun gx8=>?_
 simp -implicitDefEqProofs only[go_sem,seval,↓reduceIte,sets]
 simp -implicitDefEqProofs only[go_sem,seval,↓reduceIte,rdO_K]
 refine RdS.call hG (rLast_spec G hG sl g r4 h4n) (gx:=gx8) (by kernel_rfl) (fun F=>rfl) (by decide) (by first | rfl | (simp -implicitDefEqProofs only[go_sem,seval,↓reduceIte,List.map_cons,List.map_nil,encXN_K];try rfl)) (by first | rfl | (simp -implicitDefEqProofs only[go_sem,seval,↓reduceIte,List.map_cons,List.map_nil];try rfl)) (by first | rfl | (simp -implicitDefEqProofs only[go_sem,seval,↓reduceIte];try rfl)) (by first | rfl | (simp -implicitDefEqProofs only[go_sem,seval,↓reduceIte];try rfl)) fun gx9=>?_
 simp -implicitDefEqProofs only[go_sem,seval,↓reduceIte,sets]
 rw [h4l]
 simp -implicitDefEqProofs only[go_sem,seval,↓reduceIte,rdO_K]
 rw [← encXN_K ⟨22,0,[],a.last,b.last,c.last⟩]
 refine RdS.call hG (rPutN_spec G hG sl g r4 h4n ⟨22,0,[],a.last,b.last,c.last⟩) (gx:=gx9) (by kernel_rfl) (fun F=>rfl) (by decide) (by first | rfl | (simp -implicitDefEqProofs only[go_sem,seval,↓reduceIte,List.map_cons,List.map_nil,encXN_K];try rfl)) (by first | rfl | (simp -implicitDefEqProofs only[go_sem,seval,↓reduceIte,List.map_cons,List.map_nil];try rfl)) (by first | rfl | (simp -implicitDefEqProofs only[go_sem,seval,↓reduceIte];try rfl)) (by first | rfl | (simp -implicitDefEqProofs only[go_sem,seval,↓reduceIte];try rfl)) fun gxa=>?_
 simp -implicitDefEqProofs only[go_sem,seval,↓reduceIte,sets]
 refine hK _ ?_
 clear hK K
 refine AW.ret ?_
 simp -implicitDefEqProofs only[go_sem,seval,↓reduceIte]
 refine endK_some ?_
 rw [hP]
 exact ⟨rfl,gxa,by first | rfl | (simp -implicitDefEqProofs only[go_sem,seval,↓reduceIte];try rfl),by first | rfl | (simp -implicitDefEqProofs only[go_sem,seval,↓reduceIte];try rfl)⟩
theorem rPrimary_spec (G:Nat→V) (hG:GOk G) (sl:Sl Tk) (hT:TkOk sl.l) (g:Nat) (r:RS) (hr:RSok sl.l r) (inner:Inner) (hin:InnR G sl g inner r.i) (hb:Bals sl.l inner) :
  RdS 1012 [] G 79 [] sl g r (.bool (primR sl.l inner r).1) (primR sl.l inner r).2:=by
 have hTl:=hT.len
 have hri:r.i<1000000:=by have:=hr.1;omega
 have hrn:r.nodes.length<1000000:=by have:=hr.2;omega
 have hw:IntKind.i64.wrap ((r.i:Int)+1)=((r.i+1:Nat):Int):=by rw [w64 (by omega) (by omega)];omega
 intro gx
 refine Spec.of_code' 1000 83 [.tmp 2] Tryz.func79 rfl rfl rfl rfl fun X=>?_
 have hP:primR sl.l inner r=if (nextP sl.l r.i).text=[40] then andThen (inner 1 r.adv) (eatR sl.l [41])
  else if (nextP sl.l r.i).text=wIf then branchesR sl.l inner r
  else if (nextP sl.l r.i).text=[116,114,117,101] then leafP r 3 0 []
  else if (nextP sl.l r.i).text=[102,97,108,115,101] then leafP r 4 0 []
  else if (nextP sl.l r.i).text≠[]∧(nextP sl.l r.i).kind=1 then numberR r (nextP sl.l r.i).text
  else if (nextP sl.l r.i).text≠[]∧(nextP sl.l r.i).kind=2 then leafP r 2 0 (nextP sl.l r.i).text
  else (false,r.err 80):=rfl
 have htl:=nextP_ln hT r.i
 have hbr:=fun h=>rBranches_spec G hG sl hT g r hr h inner hin hb
 have hne:(nextP sl.l r.i).text≠[]→∃ t,sl.l[r.i]? = some t∧nextP sl.l r.i=t∧r.i<sl.l.length:=by
  intro h
  unfold nextP at h ⊢
  cases hg:sl.l[r.i]? with
  | none=>rw [hg] at h;exact absurd rfl h
  | some t =>
   rw [hg] at h
   simp only at h
   split at h
   ·rename_i q
    refine ⟨t,rfl,?_,(List.getElem?_eq_some_iff.1 hg).1⟩
    simp only
    rw [if_pos q]
   ·exact absurd rfl h
 have hadv:(nextP sl.l r.i).text≠[]→RSok sl.l r.adv:=fun h=>by
  obtain ⟨t,_,_,q⟩:=hne h
  exact (Bal.adv q).ok hr
 generalize primR sl.l inner r=res at hP ⊢
 refine AW.seq_k fun K hK=>AW.region (by kernel_rfl) ?_
 simp -implicitDefEqProofs only[go_sem,seval,↓reduceIte]
 refine hK _ ?_
 clear hK K
 refine AW.seq_k fun K hK=>AW.region (by kernel_rfl) ?_
 simp -implicitDefEqProofs only[go_sem,seval,↓reduceIte]
 refine RdS.call hG (rNext_spec G hG sl hT g r hri) (gx:=gx) (by kernel_rfl) (fun F=>rfl) (by decide) (by first | rfl | (simp -implicitDefEqProofs only[go_sem,seval,↓reduceIte,List.map_cons,List.map_nil,encXN_K];try rfl)) (by first | rfl | (simp -implicitDefEqProofs only[go_sem,seval,↓reduceIte,List.map_cons,List.map_nil];try rfl)) (by first | rfl | (simp -implicitDefEqProofs only[go_sem,seval,↓reduceIte];try rfl)) (by first | rfl | (simp -implicitDefEqProofs only[go_sem,seval,↓reduceIte];try rfl)) fun gx1=>?_
 simp -implicitDefEqProofs only[go_sem,seval,↓reduceIte,sets]
 refine hK _ ?_
 clear hK K
 generalize nextP sl.l r.i=t at hP htl hadv hne ⊢
 obtain ⟨k,t,p⟩:=t
 simp only at hP htl hadv hne
 refine AW.seqJ (fun (_:Unit)=>st [(0,.ptr 8 g 0)] [(8,rdO 1012 [] sl g gx1 r),(1012,ndO gx1 r.nodes)]) (fun _=>res=(false,r.err 80)) (fun K1 hK1=>?_) ?_
 rotate_left
 ·intro _ hP
  refine AW.seq_k fun K hK=>AW.region (by kernel_rfl) ?_
  simp -implicitDefEqProofs only[go_sem,seval,↓reduceIte,rdO_K]
  refine hK _ ?_
  clear hK K
  refine AW.seq_k fun K hK=>AW.region (by kernel_rfl) ?_
  simp -implicitDefEqProofs only[go_sem,seval,↓reduceIte]
  refine hK _ ?_
  clear hK K
  refine AW.ret ?_
  simp -implicitDefEqProofs only[go_sem,seval,↓reduceIte]
  refine endK_some ?_
  rw [hP]
  exact ⟨rfl,gx1,by first | rfl | (simp -implicitDefEqProofs only[go_sem,seval,↓reduceIte];try rfl),by first | rfl | (simp -implicitDefEqProofs only[go_sem,seval,↓reduceIte];try rfl)⟩
 refine AW.block ?_
 by_cases c1:t=[40]
 ·have e1:(t==[40])=true:=by simpa using c1
  have htn:t≠[]:=by rw [c1];simp
  rw [if_pos c1] at hP
  have hc:=hin.lev 1 r.adv (by decide) (by decide) (Nat.lt_succ_self _) (hadv htn)
  have hbl:=(hb 1 r.adv).ok (hadv htn)
  generalize inner 1 r.adv=x at hc hP hbl
  obtain ⟨b,a⟩:=x
  simp only at hc hbl
  have hai:a.i<1000000:=by have:=hbl.1;omega
  refine AW.seq_k fun K hK=>AW.region (by kernel_rfl) ?_
  simp -implicitDefEqProofs only[go_sem,seval,↓reduceIte,e1]
  refine hK _ ?_
  clear hK K
  refine AW.condS (by simp -implicitDefEqProofs only[go_sem,seval,↓reduceIte];rfl) (fun h2=>?_) (fun h2=>?_)
  rotate_left
  ·cases h2
  refine AW.seq_k fun K hK=>AW.region (by kernel_rfl) ?_
  simp -implicitDefEqProofs only[go_sem,seval,↓reduceIte,rdO_K,hw]
  refine hK _ ?_
  clear hK K
  cases b with
  | false =>
   rw [andThen_false] at hP
   refine AW.seq_k fun K hK=>AW.region (by kernel_rfl) ?_
   simp -implicitDefEqProofs only[go_sem,seval,↓reduceIte,rdO_K]
   refine RdS.call hG (hc) (gx:=gx1) (by kernel_rfl) (fun F=>rfl) (by decide) (by first | rfl | (simp -implicitDefEqProofs only[go_sem,seval,↓reduceIte,List.map_cons,List.map_nil,encXN_K];try rfl)) (by first | rfl | (simp -implicitDefEqProofs only[go_sem,seval,↓reduceIte,List.map_cons,List.map_nil];try rfl)) (by first | rfl | (simp -implicitDefEqProofs only[go_sem,seval,↓reduceIte];try rfl)) (by first | rfl | (simp -implicitDefEqProofs only[go_sem,seval,↓reduceIte];try rfl)) fun gx2=>?_
   simp -implicitDefEqProofs only[go_sem,seval,↓reduceIte,sets]
   refine hK _ ?_
   clear hK K
   refine AW.ret ?_
   simp -implicitDefEqProofs only[go_sem,seval,↓reduceIte]
   refine endK_some ?_
   rw [hP]
   exact ⟨rfl,gx2,by first | rfl | (simp -implicitDefEqProofs only[go_sem,seval,↓reduceIte];try rfl),by first | rfl | (simp -implicitDefEqProofs only[go_sem,seval,↓reduceIte];try rfl)⟩
  | true =>
   rw [andThen_true] at hP
   refine AW.seq_k fun K hK=>AW.region (by kernel_rfl) ?_
   simp -implicitDefEqProofs only[go_sem,seval,↓reduceIte,rdO_K]
   refine RdS.call hG (hc) (gx:=gx1) (by kernel_rfl) (fun F=>rfl) (by decide) (by first | rfl | (simp -implicitDefEqProofs only[go_sem,seval,↓reduceIte,List.map_cons,List.map_nil,encXN_K];try rfl)) (by first | rfl | (simp -implicitDefEqProofs only[go_sem,seval,↓reduceIte,List.map_cons,List.map_nil];try rfl)) (by first | rfl | (simp -implicitDefEqProofs only[go_sem,seval,↓reduceIte];try rfl)) (by first | rfl | (simp -implicitDefEqProofs only[go_sem,seval,↓reduceIte];try rfl)) fun gx2=>?_
   simp -implicitDefEqProofs only[go_sem,seval,↓reduceIte,sets]
   simp -implicitDefEqProofs only[go_sem,seval,↓reduceIte,rdO_K]
   refine RdS.call hG (rEats_spec G hG sl hT g a hai [41]) (gx:=gx2) (by kernel_rfl) (fun F=>rfl) (by decide) (by first | rfl | (simp -implicitDefEqProofs only[go_sem,seval,↓reduceIte,List.map_cons,List.map_nil,encXN_K];try rfl)) (by first | rfl | (simp -implicitDefEqProofs only[go_sem,seval,↓reduceIte,List.map_cons,List.map_nil];try rfl)) (by first | rfl | (simp -implicitDefEqProofs only[go_sem,seval,↓reduceIte];try rfl)) (by first | rfl | (simp -implicitDefEqProofs only[go_sem,seval,↓reduceIte];try rfl)) fun gx3=>?_
   simp -implicitDefEqProofs only[go_sem,seval,↓reduceIte,sets]
   generalize eatR sl.l [41] a=y at hP ⊢
   obtain ⟨b,a2⟩:=y
   cases b with
   | true =>
    simp -implicitDefEqProofs only[go_sem,seval,↓reduceIte]
    refine hK _ ?_
    clear hK K
    refine AW.ret ?_
    simp -implicitDefEqProofs only[go_sem,seval,↓reduceIte]
    refine endK_some ?_
    rw [hP]
    exact ⟨rfl,gx3,by first | rfl | (simp -implicitDefEqProofs only[go_sem,seval,↓reduceIte];try rfl),by first | rfl | (simp -implicitDefEqProofs only[go_sem,seval,↓reduceIte];try rfl)⟩
   | false =>
    simp -implicitDefEqProofs only[go_sem,seval,↓reduceIte]
    refine hK _ ?_
    clear hK K
    refine AW.ret ?_
    simp -implicitDefEqProofs only[go_sem,seval,↓reduceIte]
    refine endK_some ?_
    rw [hP]
    exact ⟨rfl,gx3,by first | rfl | (simp -implicitDefEqProofs only[go_sem,seval,↓reduceIte];try rfl),by first | rfl | (simp -implicitDefEqProofs only[go_sem,seval,↓reduceIte];try rfl)⟩
 have e1:(t==[40])=false:=by simpa using c1
 rw [if_neg c1] at hP
 refine AW.seq_k fun K hK=>AW.region (by kernel_rfl) ?_
 simp -implicitDefEqProofs only[go_sem,seval,↓reduceIte,e1]
 refine hK _ ?_
 clear hK K
 refine AW.condS (by simp -implicitDefEqProofs only[go_sem,seval,↓reduceIte];rfl) (fun h2=>?_) (fun h2=>?_)
 ·cases h2
 clear h2
 by_cases c2:t=wIf
 ·have e2:(t==[105,102])=true:=by rw [c2];rfl
  have htn:t≠[]:=by rw [c2];decide
  obtain ⟨_,_,_,hlt⟩:=hne htn
  rw [if_pos c2] at hP
  refine AW.seq_k fun K hK=>AW.region (by kernel_rfl) ?_
  simp -implicitDefEqProofs only[go_sem,seval,↓reduceIte,e2]
  refine hK _ ?_
  clear hK K
  refine AW.condS (by simp -implicitDefEqProofs only[go_sem,seval,↓reduceIte];rfl) (fun h2=>?_) (fun h2=>?_)
  rotate_left
  ·cases h2
  refine AW.seq_k fun K hK=>AW.region (by kernel_rfl) ?_
  simp -implicitDefEqProofs only[go_sem,seval,↓reduceIte]
  refine RdS.call hG (hbr hlt) (gx:=gx1) (by kernel_rfl) (fun F=>rfl) (by decide) (by first | rfl | (simp -implicitDefEqProofs only[go_sem,seval,↓reduceIte,List.map_cons,List.map_nil,encXN_K];try rfl)) (by first | rfl | (simp -implicitDefEqProofs only[go_sem,seval,↓reduceIte,List.map_cons,List.map_nil];try rfl)) (by first | rfl | (simp -implicitDefEqProofs only[go_sem,seval,↓reduceIte];try rfl)) (by first | rfl | (simp -implicitDefEqProofs only[go_sem,seval,↓reduceIte];try rfl)) fun gx2=>?_
  simp -implicitDefEqProofs only[go_sem,seval,↓reduceIte,sets]
  refine hK _ ?_
  clear hK K
  refine AW.ret ?_
  simp -implicitDefEqProofs only[go_sem,seval,↓reduceIte]
  refine endK_some ?_
  rw [hP]
  exact ⟨rfl,gx2,by first | rfl | (simp -implicitDefEqProofs only[go_sem,seval,↓reduceIte];try rfl),by first | rfl | (simp -implicitDefEqProofs only[go_sem,seval,↓reduceIte];try rfl)⟩
 have e2:(t==[105,102])=false:=by rw [beq_eq_false_iff_ne];exact c2
 rw [if_neg c2] at hP
 refine AW.seq_k fun K hK=>AW.region (by kernel_rfl) ?_
 simp -implicitDefEqProofs only[go_sem,seval,↓reduceIte,e2]
 refine hK _ ?_
 clear hK K
 refine AW.condS (by simp -implicitDefEqProofs only[go_sem,seval,↓reduceIte];rfl) (fun h2=>?_) (fun h2=>?_)
 ·cases h2
 clear h2
 by_cases c3:t=[116,114,117,101]
 ·have e3:(t==[116,114,117,101])=true:=by simpa using c3
  rw [if_pos c3] at hP
  refine AW.seq_k fun K hK=>AW.region (by kernel_rfl) ?_
  simp -implicitDefEqProofs only[go_sem,seval,↓reduceIte,e3]
  refine hK _ ?_
  clear hK K
  refine AW.condS (by simp -implicitDefEqProofs only[go_sem,seval,↓reduceIte];rfl) (fun h2=>?_) (fun h2=>?_)
  rotate_left
  ·cases h2
  refine AW.seq_k fun K hK=>AW.region (by kernel_rfl) ?_
  simp -implicitDefEqProofs only[go_sem,seval,↓reduceIte]
  rw [← encXN_K ⟨3,0,[],0,0,0⟩]
  refine RdS.call hG (rLeaf_spec G hG sl g r hri hrn 3 0 [] 0 0 0) (gx:=gx1) (by kernel_rfl) (fun F=>rfl) (by decide) (by first | rfl | (simp -implicitDefEqProofs only[go_sem,seval,↓reduceIte,List.map_cons,List.map_nil,encXN_K];try rfl)) (by first | rfl | (simp -implicitDefEqProofs only[go_sem,seval,↓reduceIte,List.map_cons,List.map_nil];try rfl)) (by first | rfl | (simp -implicitDefEqProofs only[go_sem,seval,↓reduceIte];try rfl)) (by first | rfl | (simp -implicitDefEqProofs only[go_sem,seval,↓reduceIte];try rfl)) fun gx2=>?_
  simp -implicitDefEqProofs only[go_sem,seval,↓reduceIte,sets]
  refine hK _ ?_
  clear hK K
  refine AW.ret ?_
  simp -implicitDefEqProofs only[go_sem,seval,↓reduceIte]
  refine endK_some ?_
  rw [hP]
  exact ⟨rfl,gx2,by first | rfl | (simp -implicitDefEqProofs only[go_sem,seval,↓reduceIte];try rfl),by first | rfl | (simp -implicitDefEqProofs only[go_sem,seval,↓reduceIte];try rfl)⟩
 have e3:(t==[116,114,117,101])=false:=by simpa using c3
 rw [if_neg c3] at hP
 refine AW.seq_k fun K hK=>AW.region (by kernel_rfl) ?_
 simp -implicitDefEqProofs only[go_sem,seval,↓reduceIte,e3]
 refine hK _ ?_
 clear hK K
 refine AW.condS (by simp -implicitDefEqProofs only[go_sem,seval,↓reduceIte];rfl) (fun h2=>?_) (fun h2=>?_)
 ·cases h2
 clear h2
 by_cases c4:t=[102,97,108,115,101]
 ·have e4:(t==[102,97,108,115,101])=true:=by simpa using c4
  rw [if_pos c4] at hP
  refine AW.seq_k fun K hK=>AW.region (by kernel_rfl) ?_
  simp -implicitDefEqProofs only[go_sem,seval,↓reduceIte,e4]
  refine hK _ ?_
  clear hK K
  refine AW.condS (by simp -implicitDefEqProofs only[go_sem,seval,↓reduceIte];rfl) (fun h2=>?_) (fun h2=>?_)
  rotate_left
  ·cases h2
  refine AW.seq_k fun K hK=>AW.region (by kernel_rfl) ?_
  simp -implicitDefEqProofs only[go_sem,seval,↓reduceIte]
  rw [← encXN_K ⟨4,0,[],0,0,0⟩]
  refine RdS.call hG (rLeaf_spec G hG sl g r hri hrn 4 0 [] 0 0 0) (gx:=gx1) (by kernel_rfl) (fun F=>rfl) (by decide) (by first | rfl | (simp -implicitDefEqProofs only[go_sem,seval,↓reduceIte,List.map_cons,List.map_nil,encXN_K];try rfl)) (by first | rfl | (simp -implicitDefEqProofs only[go_sem,seval,↓reduceIte,List.map_cons,List.map_nil];try rfl)) (by first | rfl | (simp -implicitDefEqProofs only[go_sem,seval,↓reduceIte];try rfl)) (by first | rfl | (simp -implicitDefEqProofs only[go_sem,seval,↓reduceIte];try rfl)) fun gx2=>?_
  simp -implicitDefEqProofs only[go_sem,seval,↓reduceIte,sets]
  refine hK _ ?_
  clear hK K
  refine AW.ret ?_
  simp -implicitDefEqProofs only[go_sem,seval,↓reduceIte]
  refine endK_some ?_
  rw [hP]
  exact ⟨rfl,gx2,by first | rfl | (simp -implicitDefEqProofs only[go_sem,seval,↓reduceIte];try rfl),by first | rfl | (simp -implicitDefEqProofs only[go_sem,seval,↓reduceIte];try rfl)⟩
 have e4:(t==[102,97,108,115,101])=false:=by simpa using c4
 rw [if_neg c4] at hP
 refine AW.seq_k fun K hK=>AW.region (by kernel_rfl) ?_
 simp -implicitDefEqProofs only[go_sem,seval,↓reduceIte,e4]
 refine hK _ ?_
 clear hK K
 refine AW.condS (by simp -implicitDefEqProofs only[go_sem,seval,↓reduceIte];rfl) (fun h2=>?_) (fun h2=>?_)
 ·cases h2
 clear h2
 by_cases c5:t=[]
 ·have e5:(t==[])=true:=by rw [c5];rfl
  rw [if_neg (fun h=>h.1 c5),if_neg (fun h=>h.1 c5)] at hP
  refine AW.seq_k fun K hK=>AW.regionT ⟨fun _ => .top,fun _ => .pure⟩ (by kernel_rfl) hG (by kernel_rfl) (by kernel_rfl) ?_
  simp -implicitDefEqProofs only[go_sem,seval,↓reduceIte,e5]
  refine hK _ ?_
  clear hK K
  refine AW.condS (by simp -implicitDefEqProofs only[go_sem,seval,↓reduceIte];rfl) (fun h2=>?_) (fun h2=>?_)
  ·cases h2
  clear h2
  refine AW.seq_k fun K hK=>AW.regionT ⟨fun _ => .top,fun _ => .pure⟩ (by kernel_rfl) hG (by kernel_rfl) (by kernel_rfl) ?_
  simp -implicitDefEqProofs only[go_sem,seval,↓reduceIte,e5]
  refine hK _ ?_
  clear hK K
  refine AW.condS (by simp -implicitDefEqProofs only[go_sem,seval,↓reduceIte];rfl) (fun h2=>?_) (fun h2=>?_)
  ·cases h2
  refine AW.skip ?_
  simp -implicitDefEqProofs only[go_sem,seval,↓reduceIte]
  exact hK1 _ () hP (Weak.st (by simp -implicitDefEqProofs only[go_sem,seval,↓reduceIte];try rfl) (by simp -implicitDefEqProofs only[go_sem,seval,↓reduceIte];try rfl))
 have e5:(t==[])=false:=by simpa using c5
 obtain ⟨t0,hg,ht0,hlt⟩:=hne c5
 have hgk:sl.l[r.i]? = some ⟨k,t,p⟩:=by rw [hg,ht0]
 by_cases k1:k=1
 ·have q1:(k==1)=true:=by simpa using k1
  rw [if_pos ⟨c5,k1⟩] at hP
  refine AW.seq_k fun K hK=>AW.regionT ⟨fun _ => .top,fun _ => .pure⟩ (by kernel_rfl) hG (by kernel_rfl) (by kernel_rfl) ?_
  simp -implicitDefEqProofs only[go_sem,seval,↓reduceIte,e5,rdO_K,hgk,encTk_K,q1]
  refine hK _ ?_
  clear hK K
  refine AW.condS (by simp -implicitDefEqProofs only[go_sem,seval,↓reduceIte];rfl) (fun h2=>?_) (fun h2=>?_)
  rotate_left
  ·cases h2
  refine AW.seq_k fun K hK=>AW.region (by kernel_rfl) ?_
  simp -implicitDefEqProofs only[go_sem,seval,↓reduceIte,rdO_K]
  refine RdS.call hG (rNumber_spec G hG sl g r hri hrn t htl) (gx:=gx1) (by kernel_rfl) (fun F=>rfl) (by decide) (by first | rfl | (simp -implicitDefEqProofs only[go_sem,seval,↓reduceIte,List.map_cons,List.map_nil,encXN_K];try rfl)) (by first | rfl | (simp -implicitDefEqProofs only[go_sem,seval,↓reduceIte,List.map_cons,List.map_nil];try rfl)) (by first | rfl | (simp -implicitDefEqProofs only[go_sem,seval,↓reduceIte];try rfl)) (by first | rfl | (simp -implicitDefEqProofs only[go_sem,seval,↓reduceIte];try rfl)) fun gx2=>?_
  simp -implicitDefEqProofs only[go_sem,seval,↓reduceIte,sets]
  refine hK _ ?_
  clear hK K
  refine AW.ret ?_
  simp -implicitDefEqProofs only[go_sem,seval,↓reduceIte]
  refine endK_some ?_
  rw [hP]
  exact ⟨rfl,gx2,by first | rfl | (simp -implicitDefEqProofs only[go_sem,seval,↓reduceIte];try rfl),by first | rfl | (simp -implicitDefEqProofs only[go_sem,seval,↓reduceIte];try rfl)⟩
 have q1:(k==1)=false:=by simpa using k1
 rw [if_neg (fun h=>k1 h.2)] at hP
 refine AW.seq_k fun K hK=>AW.regionT ⟨fun _ => .top,fun _ => .pure⟩ (by kernel_rfl) hG (by kernel_rfl) (by kernel_rfl) ?_
 simp -implicitDefEqProofs only[go_sem,seval,↓reduceIte,e5,rdO_K,hgk,encTk_K,q1]
 refine hK _ ?_
 clear hK K
 refine AW.condS (by simp -implicitDefEqProofs only[go_sem,seval,↓reduceIte];rfl) (fun h2=>?_) (fun h2=>?_)
 ·cases h2
 clear h2
 by_cases k2:k=2
 ·have q2:(k==2)=true:=by simpa using k2
  rw [if_pos ⟨c5,k2⟩] at hP
  refine AW.seq_k fun K hK=>AW.regionT ⟨fun _ => .top,fun _ => .pure⟩ (by kernel_rfl) hG (by kernel_rfl) (by kernel_rfl) ?_
  simp -implicitDefEqProofs only[go_sem,seval,↓reduceIte,e5,rdO_K,hgk,encTk_K,q2]
  refine hK _ ?_
  clear hK K
  refine AW.condS (by simp -implicitDefEqProofs only[go_sem,seval,↓reduceIte];rfl) (fun h2=>?_) (fun h2=>?_)
  rotate_left
  ·cases h2
  refine AW.seq_k fun K hK=>AW.region (by kernel_rfl) ?_
  simp -implicitDefEqProofs only[go_sem,seval,↓reduceIte,rdO_K]
  rw [← encXN_K ⟨2,0,t,0,0,0⟩]
  refine RdS.call hG (rLeaf_spec G hG sl g r hri hrn 2 0 t 0 0 0) (gx:=gx1) (by kernel_rfl) (fun F=>rfl) (by decide) (by first | rfl | (simp -implicitDefEqProofs only[go_sem,seval,↓reduceIte,List.map_cons,List.map_nil,encXN_K];try rfl)) (by first | rfl | (simp -implicitDefEqProofs only[go_sem,seval,↓reduceIte,List.map_cons,List.map_nil];try rfl)) (by first | rfl | (simp -implicitDefEqProofs only[go_sem,seval,↓reduceIte];try rfl)) (by first | rfl | (simp -implicitDefEqProofs only[go_sem,seval,↓reduceIte];try rfl)) fun gx2=>?_
  simp -implicitDefEqProofs only[go_sem,seval,↓reduceIte,sets]
  refine hK _ ?_
  clear hK K
  refine AW.ret ?_
  simp -implicitDefEqProofs only[go_sem,seval,↓reduceIte]
  refine endK_some ?_
  rw [hP]
  exact ⟨rfl,gx2,by first | rfl | (simp -implicitDefEqProofs only[go_sem,seval,↓reduceIte];try rfl),by first | rfl | (simp -implicitDefEqProofs only[go_sem,seval,↓reduceIte];try rfl)⟩
 have q2:(k==2)=false:=by simpa using k2
 rw [if_neg (fun h=>k2 h.2)] at hP
 refine AW.seq_k fun K hK=>AW.regionT ⟨fun _ => .top,fun _ => .pure⟩ (by kernel_rfl) hG (by kernel_rfl) (by kernel_rfl) ?_
 simp -implicitDefEqProofs only[go_sem,seval,↓reduceIte,e5,rdO_K,hgk,encTk_K,q2]
 refine hK _ ?_
 clear hK K
 refine AW.condS (by simp -implicitDefEqProofs only[go_sem,seval,↓reduceIte];rfl) (fun h2=>?_) (fun h2=>?_)
 ·cases h2
 refine AW.skip ?_
 simp -implicitDefEqProofs only[go_sem,seval,↓reduceIte]
 exact hK1 _ () hP (Weak.st (by simp -implicitDefEqProofs only[go_sem,seval,↓reduceIte];try rfl) (by simp -implicitDefEqProofs only[go_sem,seval,↓reduceIte,rdO_K];try rfl))
end Go.Hs
end

section
namespace Go.Hs
def sgT (op:Nat):List UInt8:=(tabL.getD op ⟨[],0,0⟩).text
def wNot:List UInt8:=[110,111,116]
def wTrue:List UInt8:=[116,114,117,101]
def wFalse:List UInt8:=[102,97,108,115,101]
inductive Gr:Int→List (List UInt8)→X→Prop where
 | num {n:Int} {t:List UInt8} {v:Int}:isP t=1→parseR (trim0 t)=(v,0)→Gr n [t] (.leaf 1 v [])
 | name {n:Int} {t:List UInt8}:isP t=2→Gr n [t] (.leaf 2 0 t)
 | tr {n:Int}:Gr n [wTrue] (.leaf 3 0 [])
 | fa {n:Int}:Gr n [wFalse] (.leaf 4 0 [])
 | neg {n:Int} {ts:List (List UInt8)} {a:X}:n≤9→Gr 9 ts a→Gr n ([45]::ts) (.un 5 a)
 | not {n:Int} {ts:List (List UInt8)} {a:X}:n≤9→Gr 9 ts a→Gr n (wNot::ts) (.un 6 a)
 | par {n:Int} {ts:List (List UInt8)} {a:X}:Gr 1 ts a→Gr n ([40]::(ts++[[41]])) a
 | bin {n:Int} {op:Nat} {ta tb:List (List UInt8)} {a b:X}:7≤op→op≤21→n≤lvl op→Gr (lvl op) ta a→Gr (lvl op+1) tb b→Gr n (ta++sgT op::tb) (.bin op a b)
 | ite {n:Int} {ta tb tc:List (List UInt8)} {a b c:X}:Gr 1 ta a→Gr 1 tb b→Gr 1 tc c→Gr n (wIf::(ta++wThen::(tb++wElse::(tc++[wEndif])))) (.ite a b c)
theorem Gr.mono {n m:Int} {ts:List (List UInt8)} {x:X} (h:Gr n ts x) (hm:m≤n):Gr m ts x:=by
 cases h with
 | num h1 h2=>exact .num h1 h2
 | name h1=>exact .name h1
 | tr=>exact .tr
 | fa=>exact .fa
 | neg h1 h2=>exact .neg (by omega) h2
 | not h1 h2=>exact .not (by omega) h2
 | par h1=>exact .par h1
 | bin h1 h2 h3 h4 h5=>exact .bin h1 h2 (by omega) h4 h5
 | ite h1 h2 h3=>exact .ite h1 h2 h3
theorem lvl_rng:∀ op,7≤op→op≤21→1≤lvl op∧lvl op≤8∧ofI (sgT op) 2=some op∧isP (sgT op)≠0:=by
 have:((List.range 22).all fun op=>decide (7≤op→1≤lvl op∧lvl op≤8∧ofI (sgT op) 2=some op∧isP (sgT op)≠0))=true:=by decide +kernel
 intro op h1 h2
 have:=List.all_eq_true.1 this op (List.mem_range.2 (by omega))
 simp only [decide_eq_true_eq] at this
 exact this h1
theorem Gr.pos {n:Int} {ts:List (List UInt8)} {x:X} (h:Gr n ts x):0<ts.length:=by
 cases h<;>simp<;>omega
def wdOf (t:Tk):List UInt8:=if (isP t.text:Int)=t.kind then t.text else []
theorem next_wd {l:List Tk} {i:Nat} {w:List UInt8} (h:(l.map wdOf)[i]? = some w):(nextP l i).text=w∧(nextP l i).kind=isP w:=by
 have hk:=nextP_is l i
 have:(nextP l i).text=w:=by
  rw [List.getElem?_map] at h
  unfold nextP
  cases hg:l[i]? with
  | none=>rw [hg] at h;cases h
  | some t =>
   rw [hg] at h
   simp only [Option.map_some,Option.some.injEq] at h
   simp only
   rw [← h]
   unfold wdOf
   split<;>rfl
 exact ⟨this,by rw [← hk,this]⟩
theorem next_text {l:List Tk} {i:Nat} (h:i<l.length):(l.map wdOf)[i]? = some (nextP l i).text:=by
 have hg:(l.map wdOf)[i]? = some (wdOf l[i]):=by rw [List.getElem?_map,List.getElem?_eq_getElem h];rfl
 rw [hg,(next_wd hg).1]
def Seg (l:List Tk) (i:Nat) (ts:List (List UInt8)):Prop:=∃ pre post,l.map wdOf=pre++(ts++post)∧pre.length=i
theorem Seg.le {l:List Tk} {i:Nat} {b:List (List UInt8)} (h:Seg l i b):i+b.length≤l.length:=by
 obtain ⟨pre,post,e,hp⟩:=h
 have:=congrArg List.length e
 simp only [List.length_map,List.length_append] at this
 omega
theorem Seg.app {l:List Tk} {i:Nat} {a b:List (List UInt8)} (h:Seg l i a) (h2:Seg l (i+a.length) b):Seg l i (a++b):=by
 obtain ⟨pre,post,e,hp⟩:=h
 obtain ⟨pre2,post2,e2,hp2⟩:=h2
 refine ⟨pre,post2,?_,hp⟩
 rw [e] at e2
 have h1:pre++(a++post)=(pre++a)++post:=by simp
 rw [h1] at e2
 obtain ⟨q1,q2⟩:=List.append_inj e2 (by simp [hp,hp2])
 rw [e,q2];simp
theorem Seg.one {l:List Tk} {i:Nat} {w:List UInt8} (hi:i<l.length) (h:(nextP l i).text=w):Seg l i [w]:=by
 have hg:=next_text hi
 rw [h] at hg
 obtain ⟨q1,q2⟩:=List.getElem?_eq_some_iff.1 hg
 refine ⟨(l.map wdOf).take i,(l.map wdOf).drop (i+1),?_,?_⟩
 ·rw [← q2,List.singleton_append,← List.drop_eq_getElem_cons q1,List.take_append_drop]
 ·rw [List.length_take];omega
def after (r:RS) (k:Nat) (x:X):RS:=⟨r.i+k,r.nodes++x.row r.nodes.length,r.e⟩
theorem parse_pos {t:List UInt8} (h:isP t=1):0≤(parseR (trim0 t)).1:=by
 have hd:=(isP_dig h).2
 have h1:(trim0 t).all isDig=true∧trim0 t≠[]:=by
  unfold trim0
  split
  ·exact ⟨by decide,by simp⟩
  ·rename_i hn
   refine ⟨?_,hn⟩
   rw [List.all_eq_true] at hd ⊢
   exact fun x hx=>hd x ((List.dropWhile_sublist _).mem hx)
 obtain ⟨h1,h2⟩:=h1
 generalize trim0 t=s at h1 h2
 have hh':(s.head? == some 45)=false:=by
  cases s with
  | nil=>exact absurd rfl h2
  | cons c r =>
   rw [beq_eq_false_iff_ne]
   intro hc
   have hc:c=45:=by simpa using hc
   subst hc
   rw [List.all_cons] at h1
   revert h1
   simp [isDig]
 unfold parseR
 rw [hh']
 simp only [Bool.false_eq_true,if_false,or_false]
 split
 ·exact Int.le_refl _
 ·unfold told
  split
  ·exact Int.natCast_nonneg _
  ·exact Int.le_refl _
theorem Gr.ok {n:Int} {ts:List (List UInt8)} {x:X} (h:Gr n ts x):x.ok=true:=by
 induction h with
 | @num n t v h1 h2 =>
  have hp:=parse_pos h1
  rw [h2] at hp
  have hp:0≤v:=hp
  have:wellP ⟨1,v,[],-1,-1,-1⟩=true:=by
   unfold wellP
   rw [if_neg (by simp;omega),if_neg (by simp)];rfl
  simp only [X.ok,this,Bool.true_and];rfl
 | @name n t h1 =>
  have:wellP ⟨2,0,t,-1,-1,-1⟩=true:=by
   unfold wellP
   rw [if_neg (by simp),if_pos rfl,h1];rfl
  simp only [X.ok,this,Bool.true_and];rfl
 | tr=>rfl
 | fa=>rfl
 | neg _ _ ih=>simp only [X.ok,ih,Bool.and_true];rfl
 | not _ _ ih=>simp only [X.ok,ih,Bool.and_true];rfl
 | par _ ih=>exact ih
 | bin h1 h2 _ _ _ ih1 ih2 =>
  simp only [X.ok,ih1,ih2,Bool.and_true,Bool.and_eq_true,decide_eq_true_eq]
  omega
 | ite _ _ _ i1 i2 i3=>simp only [X.ok,i1,i2,i3];rfl
theorem sgT_of {t:List UInt8} {op:Nat} (h:ofI t 2=some op):sgT op=t:=by
 obtain ⟨s,h1,h2,_⟩:=ofI_some h
 unfold sgT
 rw [List.getD_eq_getElem?_getD,h1];exact h2
end Go.Hs
end

section
namespace Go.Hs
open Go.Proofs
set_option maxRecDepth 10000
def sgnR:List (List UInt8):=[[],[],[],[],[],[45],[110,111,116],[42],[100,105,118],[109,111,100],[43],[45],[60],[60,61],[62],[62,61],[61],[60,62],[97,110,100],[111,114],[120,111,114],[105,109,112,108,105,101,115]]
theorem sgnR_get (op:Nat) (h:5≤op) (h2:op≤21):sgnR[op]? = some (sgT op):=by
 have:((List.range 22).all fun op=>decide (op<5) || sgnR[op]? == some (sgT op))=true:=by decide +kernel
 have:=List.all_eq_true.1 this op (List.mem_range.2 (by omega))
 simp only [Bool.or_eq_true,decide_eq_true_eq,beq_iff_eq] at this
 rcases this with h | h
 ·omega
 ·exact h
theorem rSigns_spec (G:Nat→V) (hG:GOk G):Spec Tryz.prog G 92 [] hNone (fun v _=>v=encSl .new 1 V.str (.mk false sgnR)):=by
 refine Spec.of_code' 0 2 [.tmp 0] Tryz.func92 rfl rfl rfl rfl fun X=>?_
 refine AW.seq_k fun K hK=>AW.region (by kernel_rfl) ?_
 simp -implicitDefEqProofs only[go_sem,seval,↓reduceIte]
 refine hK _ ?_
 clear hK K
 refine AW.seq_k fun K hK=>AW.region (by kernel_rfl) ?_
 simp -implicitDefEqProofs only[go_sem,seval,↓reduceIte]
 intro g1
 refine hK _ ?_
 clear hK K
 refine AW.weak (Weak.stF (fun o=>o==1) (l:=[(0,encSl .new 1 V.str (.mk false sgnR))]) (m:=[]) ?_ trivial) ?_
 ·simp -implicitDefEqProofs only[go_sem,seval,↓reduceIte]
  exact Fz.sl (f:=V.str) (l:=sgnR) (m:=1) (g:=g1) (fz:=0) (c := .new) rfl (by simp -implicitDefEqProofs only[go_sem,seval,↓reduceIte];try rfl) (fun _=>rfl)
 refine AW.ret ?_
 simp -implicitDefEqProofs only[go_sem,seval,↓reduceIte]
 refine endK_some ?_
 rfl
def levL:List V:=[.int .i64 0,.int .i64 10,.int .i64 10,.int .i64 10,.int .i64 10,.int .i64 9,.int .i64 9,.int .i64 8,.int .i64 8,.int .i64 8,.int .i64 7,.int .i64 7,.int .i64 6,.int .i64 6,.int .i64 6,.int .i64 6,.int .i64 5,.int .i64 5,.int .i64 4,.int .i64 3,.int .i64 2,.int .i64 1,.int .i64 10]
theorem levL_get (op:Nat) (h:op<23):levL[op]? = some (.int .i64 (lvl op)):=by
 match op,h with
 | 0,_=>rfl
 | 1,_=>rfl
 | 2,_=>rfl
 | 3,_=>rfl
 | 4,_=>rfl
 | 5,_=>rfl
 | 6,_=>rfl
 | 7,_=>rfl
 | 8,_=>rfl
 | 9,_=>rfl
 | 10,_=>rfl
 | 11,_=>rfl
 | 12,_=>rfl
 | 13,_=>rfl
 | 14,_=>rfl
 | 15,_=>rfl
 | 16,_=>rfl
 | 17,_=>rfl
 | 18,_=>rfl
 | 19,_=>rfl
 | 20,_=>rfl
 | 21,_=>rfl
 | 22,_=>rfl
 | n+23,h=>exact absurd h (by omega)
theorem rLev_spec (G:Nat→V) (hG:GOk G) (op:Nat) (hop:op<23):Spec Tryz.prog G 89 [.int .u8 op] hNone (fun v _=>v = .int .i64 (lvl op)):=by
 refine Spec.of_code' 0 7 [.tmp 2] Tryz.func89 rfl rfl rfl rfl fun X=>?_
 have hg:=levL_get op hop
 unfold levL at hg
 have h23:(op:Int)<23:=by omega
 refine AW.seq_k fun K hK=>AW.region (by kernel_rfl) ?_
 simp -implicitDefEqProofs only[go_sem,seval,↓reduceIte]
 refine hK _ ?_
 clear hK K
 refine AW.seq_k fun K hK=>AW.region (by kernel_rfl) ?_
 simp -implicitDefEqProofs only[go_sem,seval,↓reduceIte,hg,h23,Int.natCast_nonneg,Nat.mul_one,Nat.zero_add]
 intro g3
 refine hK _ ?_
 clear hK K
 refine AW.ret ?_
 simp -implicitDefEqProofs only[go_sem,seval,↓reduceIte]
 refine endK_some ?_
 rfl
theorem two_at {t:List UInt8} {op:Nat} (h1:7≤op) (h2:op≤21):(t≠[]∧sgT op=t) ↔ ofI t 2=some op:=by
 constructor
 ·rintro ⟨_,rfl⟩
  exact (lvl_rng op h1 h2).2.2.1
 ·intro h
  exact ⟨(ofI_some h).choose_spec.2.2.2,sgT_of h⟩
theorem wu8R {z:Int} (h:0≤z) (h2:z<256):IntKind.u8.wrap z=z:=by
 unfold IntKind.wrap
 simp [IntKind.signed,IntKind.bits];omega
theorem rOfTwo_spec (G:Nat→V) (hG:GOk G) (sl:Sl Tk) (hT:TkOk sl.l) (g:Nat) (r:RS) (hr:r.i<1000000) (n:Int) :
  RdS 1012 [] G 81 [.int .i64 n] sl g r (.int .u8 (twoR sl.l n r.i)) r:=by
 intro gx
 refine Spec.of_code' 1000 32 [.tmp 4] Tryz.func81 rfl rfl rfl rfl fun X=>?_
 have hP:twoR sl.l n r.i=match ofI (nextP sl.l r.i).text 2 with | some op=>if lvl op=n then op else 0 | none=>0:=rfl
 generalize twoR sl.l n r.i=res at hP ⊢
 refine AW.seq_k fun K hK=>AW.region (by kernel_rfl) ?_
 simp -implicitDefEqProofs only[go_sem,seval,↓reduceIte]
 refine hK _ ?_
 clear hK K
 refine AW.seq_k fun K hK=>AW.region (by kernel_rfl) ?_
 simp -implicitDefEqProofs only[go_sem,seval,↓reduceIte]
 refine RdS.call hG (rNext_spec G hG sl hT g r hr) (gx:=gx) (by kernel_rfl) (fun F=>rfl) (by decide) (by first | rfl | (simp -implicitDefEqProofs only[go_sem,seval,↓reduceIte,List.map_cons,List.map_nil,encXN_K];try rfl)) (by first | rfl | (simp -implicitDefEqProofs only[go_sem,seval,↓reduceIte,List.map_cons,List.map_nil];try rfl)) (by first | rfl | (simp -implicitDefEqProofs only[go_sem,seval,↓reduceIte];try rfl)) (by first | rfl | (simp -implicitDefEqProofs only[go_sem,seval,↓reduceIte];try rfl)) fun gx1=>?_
 simp -implicitDefEqProofs only[go_sem,seval,↓reduceIte,sets]
 refine hK _ ?_
 clear hK K
 generalize (nextP sl.l r.i).text=t at hP ⊢
 refine AW.seq_k fun K hK=>AW.region (by kernel_rfl) ?_
 simp -implicitDefEqProofs only[go_sem,seval,↓reduceIte]
 refine CallA.pure hG (by kernel_rfl) ?_
 simp -implicitDefEqProofs only[go_sem,seval,↓reduceIte,List.map_nil]
 refine (rSigns_spec G hG).mono ?_
 rintro _ _ rfl
 simp -implicitDefEqProofs only[go_sem,seval,↓reduceIte]
 refine hK _ ?_
 clear hK K
 refine AW.seq_k fun K1 hK1=>?_
 refine AW.seq_k fun K hK=>AW.region (by kernel_rfl) ?_
 simp -implicitDefEqProofs only[go_sem,seval,↓reduceIte]
 refine hK _ ?_
 clear hK K
 refine AW.block ?_
 refine AW.for 22 (fun k (_:Unit)=>st [(0,.ptr 8 g 0),(1,.int .i64 n),(5,.str t),(6,encSl .new 1 V.str (.mk false sgnR)),(7,.int .u8 k)] [(8,rdO 1012 [] sl g gx1 r),(1012,ndO gx1 r.nodes)])
  (fun k _=>7≤k∧∀ j,7≤j→j<k→¬ (ofI t 2=some j∧lvl j=n)) 7 () (by decide) ⟨Nat.le_refl _,fun j h1 h2=>by omega⟩
  (Weak.st (by simp -implicitDefEqProofs only[go_sem,seval,↓reduceIte];try rfl) (by simp -implicitDefEqProofs only[go_sem,seval,↓reduceIte];try rfl)) ?_
 rintro k _ hk ⟨hk7,hR⟩ L3 hL3
 refine AW.seq_k fun K4 hK4=>?_
 refine AW.seq_k fun K hK=>AW.region (by kernel_rfl) ?_
 simp -implicitDefEqProofs only[go_sem,seval,↓reduceIte]
 refine hK _ ?_
 clear hK K
 refine AW.condS (by simp -implicitDefEqProofs only[go_sem,seval,↓reduceIte];rfl) (fun h12=>?_) (fun h12=>?_)
 ·have hk1:k≤21:=by have h12:decide ((k:Int)≤21)=true:=h12;simp at h12;omega
  have hg:=sgnR_get k (by omega) hk1
  have hnext:¬ (ofI t 2=some k∧lvl k=n)→∀ j,7≤j→j<k+1→¬ (ofI t 2=some j∧lvl j=n):=by
   intro h j h1 h2
   by_cases q:j=k
   ·subst q;exact h
   ·exact hR j h1 (by omega)
  have hwr:IntKind.u8.wrap ((k:Int)+1)=((k+1:Nat):Int):=by rw [wu8R (by omega) (by omega)];omega
  refine AW.skip ?_
  simp -implicitDefEqProofs only[go_sem,seval,↓reduceIte]
  refine hK4 _ ?_
  refine AW.seq_k fun K5 hK5=>?_
  refine AW.block ?_
  by_cases ht:t=[]
  ·have e1:(t==[])=true:=by rw [ht];rfl
   refine AW.seq_k fun K hK=>AW.region (by kernel_rfl) ?_
   simp -implicitDefEqProofs only[go_sem,seval,↓reduceIte,e1]
   refine hK _ ?_
   clear hK K
   refine AW.condS (by simp -implicitDefEqProofs only[go_sem,seval,↓reduceIte];rfl) (fun h30=>?_) (fun h30=>?_)
   ·cases h30
   refine AW.skip ?_
   simp -implicitDefEqProofs only[go_sem,seval,↓reduceIte]
   refine hK5 _ ?_
   refine AW.region (by kernel_rfl) ?_
   simp -implicitDefEqProofs only[go_sem,seval,↓reduceIte,hwr]
   exact hL3 _ ⟨by omega,(),⟨by omega,hnext (fun h=>(two_at hk7 hk1).2 h.1 |>.1 ht)⟩,Weak.st (by simp -implicitDefEqProofs only[go_sem,seval,↓reduceIte];try rfl) (by simp -implicitDefEqProofs only[go_sem,seval,↓reduceIte];try rfl)⟩
  have e1:(t==[])=false:=by simpa using ht
  by_cases hs:sgT k=t
  rotate_left
  ·have e2:(sgT k==t)=false:=by simpa using hs
   refine AW.seq_k fun K hK=>AW.region (by kernel_rfl) ?_
   simp -implicitDefEqProofs only[go_sem,seval,↓reduceIte,e1,hg,e2]
   refine hK _ ?_
   clear hK K
   refine AW.condS (by simp -implicitDefEqProofs only[go_sem,seval,↓reduceIte];rfl) (fun h30=>?_) (fun h30=>?_)
   ·cases h30
   refine AW.skip ?_
   simp -implicitDefEqProofs only[go_sem,seval,↓reduceIte]
   refine hK5 _ ?_
   refine AW.region (by kernel_rfl) ?_
   simp -implicitDefEqProofs only[go_sem,seval,↓reduceIte,hwr]
   exact hL3 _ ⟨by omega,(),⟨by omega,hnext (fun h=>hs ((two_at hk7 hk1).2 h.1).2)⟩,Weak.st (by simp -implicitDefEqProofs only[go_sem,seval,↓reduceIte];try rfl) (by simp -implicitDefEqProofs only[go_sem,seval,↓reduceIte];try rfl)⟩
  have e2:(sgT k==t)=true:=by simpa using hs
  have ho:=(two_at hk7 hk1).1 ⟨ht,hs⟩
  refine AW.seq_k fun K hK=>AW.region (by kernel_rfl) ?_
  simp -implicitDefEqProofs only[go_sem,seval,↓reduceIte,e1,hg,e2]
  refine CallA.pure hG (by kernel_rfl) ?_
  simp -implicitDefEqProofs only[go_sem,seval,↓reduceIte]
  refine (rLev_spec G hG k (by omega)).mono ?_
  rintro _ _ rfl
  simp -implicitDefEqProofs only[go_sem,seval,↓reduceIte]
  refine hK _ ?_
  clear hK K
  rw [ho] at hP
  simp only at hP
  by_cases hl:lvl k=n
  ·rw [if_pos hl] at hP
   have e3:(lvl k==n)=true:=by simpa using hl
   rw [e3]
   refine AW.condS (by simp -implicitDefEqProofs only[go_sem,seval,↓reduceIte];rfl) (fun h30=>?_) (fun h30=>?_)
   rotate_left
   ·cases h30
   refine AW.seq_k fun K hK=>AW.region (by kernel_rfl) ?_
   simp -implicitDefEqProofs only[go_sem,seval,↓reduceIte]
   refine hK _ ?_
   clear hK K
   refine AW.ret ?_
   simp -implicitDefEqProofs only[go_sem,seval,↓reduceIte]
   refine endK_some ?_
   rw [hP]
   exact ⟨rfl,gx1,by first | rfl | (simp -implicitDefEqProofs only[go_sem,seval,↓reduceIte];try rfl),by first | rfl | (simp -implicitDefEqProofs only[go_sem,seval,↓reduceIte];try rfl)⟩
  ·have e3:(lvl k==n)=false:=by simpa using hl
   rw [e3]
   refine AW.condS (by simp -implicitDefEqProofs only[go_sem,seval,↓reduceIte];rfl) (fun h30=>?_) (fun h30=>?_)
   ·cases h30
   refine AW.skip ?_
   simp -implicitDefEqProofs only[go_sem,seval,↓reduceIte]
   refine hK5 _ ?_
   refine AW.region (by kernel_rfl) ?_
   simp -implicitDefEqProofs only[go_sem,seval,↓reduceIte,hwr]
   exact hL3 _ ⟨by omega,(),⟨by omega,hnext (fun h=>hl h.2)⟩,Weak.st (by simp -implicitDefEqProofs only[go_sem,seval,↓reduceIte];try rfl) (by simp -implicitDefEqProofs only[go_sem,seval,↓reduceIte];try rfl)⟩
 ·have hk1:k=22:=by have h12:decide ((k:Int)≤21)=false:=h12;simp at h12;omega
  refine AW.exit ?_
  simp -implicitDefEqProofs only[go_sem,seval,↓reduceIte]
  refine hK1 _ ?_
  have hP:res=0:=by
   rw [hP]
   cases ho:ofI t 2 with
   | none=>rfl
   | some op =>
    simp only
    rw [if_neg]
    intro hl
    have:=ofI_two ho
    exact hR op this.1 (by omega) ⟨ho,hl⟩
  refine AW.seq_k fun K hK=>AW.region (by kernel_rfl) ?_
  simp -implicitDefEqProofs only[go_sem,seval,↓reduceIte]
  refine hK _ ?_
  clear hK K
  refine AW.ret ?_
  simp -implicitDefEqProofs only[go_sem,seval,↓reduceIte]
  refine endK_some ?_
  rw [hP]
  exact ⟨rfl,gx1,by first | rfl | (simp -implicitDefEqProofs only[go_sem,seval,↓reduceIte];try rfl),by first | rfl | (simp -implicitDefEqProofs only[go_sem,seval,↓reduceIte];try rfl)⟩
end Go.Hs
end

section
namespace Go.Hs
open Go.Proofs
set_option maxRecDepth 10000
theorem rUnary_spec (G:Nat→V) (hG:GOk G) (sl:Sl Tk) (hT:TkOk sl.l) (g:Nat) (r:RS) (hr:RSok sl.l r) (inner:Inner) (hin:InnR G sl g inner r.i) (hb:Bals sl.l inner) :
  RdS 1012 [] G 80 [] sl g r (.bool (unR sl.l inner r).1) (unR sl.l inner r).2:=by
 have hTl:=hT.len
 have hri:r.i<1000000:=by have:=hr.1;omega
 have hw:IntKind.i64.wrap ((r.i:Int)+1)=((r.i+1:Nat):Int):=by rw [w64 (by omega) (by omega)];omega
 intro gx
 refine Spec.of_code' 1000 29 [.tmp 2] Tryz.func80 rfl rfl rfl rfl fun X=>?_
 have hP:unR sl.l inner r=if (nextP sl.l r.i).text=[45] then andThen (inner 9 r.adv) fun a=>(true,a.put ⟨5,0,[],a.last,-1,-1⟩)
  else if (nextP sl.l r.i).text=[110,111,116] then andThen (inner 9 r.adv) fun a=>(true,a.put ⟨6,0,[],a.last,-1,-1⟩)
  else primR sl.l inner r:=rfl
 have hpr:=rPrimary_spec G hG sl hT g r hr inner hin hb
 have hlt:(nextP sl.l r.i).text≠[]→r.i<sl.l.length:=by
  intro h
  rw [← Nat.not_le]
  intro h2
  apply h
  rw [nextP_none h2]
 generalize unR sl.l inner r=res at hP ⊢
 generalize primR sl.l inner r=pr at hP hpr
 refine AW.seq_k fun K hK=>AW.region (by kernel_rfl) ?_
 simp -implicitDefEqProofs only[go_sem,seval,↓reduceIte]
 refine hK _ ?_
 clear hK K
 refine AW.seq_k fun K hK=>AW.region (by kernel_rfl) ?_
 simp -implicitDefEqProofs only[go_sem,seval,↓reduceIte]
 refine hK _ ?_
 clear hK K
 refine AW.seqJ (fun (x:Nat × Int)=>st [(0,.ptr 8 g 0),(3,.int .u8 x.2)] [(8,rdO 1012 [] sl g x.1 r),(1012,ndO x.1 r.nodes)]) (fun x=>r.i<sl.l.length∧res=andThen (inner 9 r.adv) fun a=>(true,a.put ⟨x.2,0,[],a.last,-1,-1⟩)) (fun K1 hK1=>?_) ?_
 ·refine AW.seq_k fun K hK=>AW.region (by kernel_rfl) ?_
  simp -implicitDefEqProofs only[go_sem,seval,↓reduceIte]
  refine RdS.call hG (rNext_spec G hG sl hT g r hri) (gx:=gx) (by kernel_rfl) (fun F=>rfl) (by decide) (by first | rfl | (simp -implicitDefEqProofs only[go_sem,seval,↓reduceIte,List.map_cons,List.map_nil,encXN_K];try rfl)) (by first | rfl | (simp -implicitDefEqProofs only[go_sem,seval,↓reduceIte,List.map_cons,List.map_nil];try rfl)) (by first | rfl | (simp -implicitDefEqProofs only[go_sem,seval,↓reduceIte];try rfl)) (by first | rfl | (simp -implicitDefEqProofs only[go_sem,seval,↓reduceIte];try rfl)) fun gx1=>?_
  simp -implicitDefEqProofs only[go_sem,seval,↓reduceIte,sets]
  refine hK _ ?_
  clear hK K
  generalize (nextP sl.l r.i).text=t at hP hlt ⊢
  refine AW.block ?_
  by_cases c1:t=[45]
  ·have e1:(t==[45])=true:=by simpa using c1
   rw [if_pos c1] at hP
   refine AW.seq_k fun K hK=>AW.region (by kernel_rfl) ?_
   simp -implicitDefEqProofs only[go_sem,seval,↓reduceIte,e1]
   refine hK _ ?_
   clear hK K
   refine AW.condS (by simp -implicitDefEqProofs only[go_sem,seval,↓reduceIte];rfl) (fun h2=>?_) (fun h2=>?_)
   rotate_left
   ·cases h2
   refine AW.region (by kernel_rfl) ?_
   simp -implicitDefEqProofs only[go_sem,seval,↓reduceIte]
   exact hK1 _ (gx1,5) ⟨hlt (by rw [c1];simp),hP⟩ (Weak.st (by simp -implicitDefEqProofs only[go_sem,seval,↓reduceIte];try rfl) (by simp -implicitDefEqProofs only[go_sem,seval,↓reduceIte];try rfl))
  have e1:(t==[45])=false:=by simpa using c1
  rw [if_neg c1] at hP
  refine AW.seq_k fun K hK=>AW.region (by kernel_rfl) ?_
  simp -implicitDefEqProofs only[go_sem,seval,↓reduceIte,e1]
  refine hK _ ?_
  clear hK K
  refine AW.condS (by simp -implicitDefEqProofs only[go_sem,seval,↓reduceIte];rfl) (fun h2=>?_) (fun h2=>?_)
  ·cases h2
  clear h2
  by_cases c2:t=[110,111,116]
  ·have e2:(t==[110,111,116])=true:=by simpa using c2
   rw [if_pos c2] at hP
   refine AW.seq_k fun K hK=>AW.region (by kernel_rfl) ?_
   simp -implicitDefEqProofs only[go_sem,seval,↓reduceIte,e2]
   refine hK _ ?_
   clear hK K
   refine AW.condS (by simp -implicitDefEqProofs only[go_sem,seval,↓reduceIte];rfl) (fun h2=>?_) (fun h2=>?_)
   rotate_left
   ·cases h2
   refine AW.region (by kernel_rfl) ?_
   simp -implicitDefEqProofs only[go_sem,seval,↓reduceIte]
   exact hK1 _ (gx1,6) ⟨hlt (by rw [c2];simp),hP⟩ (Weak.st (by simp -implicitDefEqProofs only[go_sem,seval,↓reduceIte];try rfl) (by simp -implicitDefEqProofs only[go_sem,seval,↓reduceIte];try rfl))
  have e2:(t==[110,111,116])=false:=by simpa using c2
  rw [if_neg c2] at hP
  refine AW.seq_k fun K hK=>AW.region (by kernel_rfl) ?_
  simp -implicitDefEqProofs only[go_sem,seval,↓reduceIte,e2]
  refine hK _ ?_
  clear hK K
  refine AW.condS (by simp -implicitDefEqProofs only[go_sem,seval,↓reduceIte];rfl) (fun h2=>?_) (fun h2=>?_)
  ·cases h2
  refine AW.seq_k fun K hK=>AW.region (by kernel_rfl) ?_
  simp -implicitDefEqProofs only[go_sem,seval,↓reduceIte]
  refine RdS.call hG (hpr) (gx:=gx1) (by kernel_rfl) (fun F=>rfl) (by decide) (by first | rfl | (simp -implicitDefEqProofs only[go_sem,seval,↓reduceIte,List.map_cons,List.map_nil,encXN_K];try rfl)) (by first | rfl | (simp -implicitDefEqProofs only[go_sem,seval,↓reduceIte,List.map_cons,List.map_nil];try rfl)) (by first | rfl | (simp -implicitDefEqProofs only[go_sem,seval,↓reduceIte];try rfl)) (by first | rfl | (simp -implicitDefEqProofs only[go_sem,seval,↓reduceIte];try rfl)) fun gx2=>?_
  simp -implicitDefEqProofs only[go_sem,seval,↓reduceIte,sets]
  refine hK _ ?_
  clear hK K
  refine AW.ret ?_
  simp -implicitDefEqProofs only[go_sem,seval,↓reduceIte]
  refine endK_some ?_
  rw [hP]
  exact ⟨rfl,gx2,by first | rfl | (simp -implicitDefEqProofs only[go_sem,seval,↓reduceIte];try rfl),by first | rfl | (simp -implicitDefEqProofs only[go_sem,seval,↓reduceIte];try rfl)⟩
 rintro ⟨gx,op⟩ ⟨hl,hP⟩
 replace hP:res=andThen (inner 9 r.adv) fun a=>(true,a.put ⟨op,0,[],a.last,-1,-1⟩):=hP
 have had:RSok sl.l r.adv:=(Bal.adv hl).ok hr
 have hc:=hin.un r.adv (Nat.lt_succ_self _) had
 have hbl:=(hb 9 r.adv).ok had
 generalize inner 9 r.adv=x at hc hP hbl
 obtain ⟨b,a⟩:=x
 simp only at hc hbl
 have han:a.nodes.length<1000000:=by have:=hbl.1;have:=hbl.2;omega
 refine AW.seq_k fun K hK=>AW.region (by kernel_rfl) ?_
 simp -implicitDefEqProofs only[go_sem,seval,↓reduceIte,rdO_K,hw]
 refine hK _ ?_
 clear hK K
 cases b with
 | false =>
  rw [andThen_false] at hP
  refine AW.seq_k fun K hK=>AW.region (by kernel_rfl) ?_
  simp -implicitDefEqProofs only[go_sem,seval,↓reduceIte,rdO_K]
  refine RdS.call hG (hc) (gx:=gx) (by kernel_rfl) (fun F=>rfl) (by decide) (by first | rfl | (simp -implicitDefEqProofs only[go_sem,seval,↓reduceIte,List.map_cons,List.map_nil,encXN_K];try rfl)) (by first | rfl | (simp -implicitDefEqProofs only[go_sem,seval,↓reduceIte,List.map_cons,List.map_nil];try rfl)) (by first | rfl | (simp -implicitDefEqProofs only[go_sem,seval,↓reduceIte];try rfl)) (by first | rfl | (simp -implicitDefEqProofs only[go_sem,seval,↓reduceIte];try rfl)) fun gx2=>?_
  simp -implicitDefEqProofs only[go_sem,seval,↓reduceIte,sets]
  refine hK _ ?_
  clear hK K
  refine AW.ret ?_
  simp -implicitDefEqProofs only[go_sem,seval,↓reduceIte]
  refine endK_some ?_
  rw [hP]
  exact ⟨rfl,gx2,by first | rfl | (simp -implicitDefEqProofs only[go_sem,seval,↓reduceIte];try rfl),by first | rfl | (simp -implicitDefEqProofs only[go_sem,seval,↓reduceIte];try rfl)⟩
 | true =>
  rw [andThen_true] at hP
  refine AW.seq_k fun K hK=>AW.region (by kernel_rfl) ?_
  simp -implicitDefEqProofs only[go_sem,seval,↓reduceIte,rdO_K]
  refine RdS.call hG (hc) (gx:=gx) (by kernel_rfl) (fun F=>rfl) (by decide) (by first | rfl | (simp -implicitDefEqProofs only[go_sem,seval,↓reduceIte,List.map_cons,List.map_nil,encXN_K];try rfl)) (by first | rfl | (simp -implicitDefEqProofs only[go_sem,seval,↓reduceIte,List.map_cons,List.map_nil];try rfl)) (by first | rfl | (simp -implicitDefEqProofs only[go_sem,seval,↓reduceIte];try rfl)) (by first | rfl | (simp -implicitDefEqProofs only[go_sem,seval,↓reduceIte];try rfl)) fun gx2=>?_
  simp -implicitDefEqProofs only[go_sem,seval,↓reduceIte,sets]
  simp -implicitDefEqProofs only[go_sem,seval,↓reduceIte,rdO_K]
  refine RdS.call hG (rLast_spec G hG sl g a han) (gx:=gx2) (by kernel_rfl) (fun F=>rfl) (by decide) (by first | rfl | (simp -implicitDefEqProofs only[go_sem,seval,↓reduceIte,List.map_cons,List.map_nil,encXN_K];try rfl)) (by first | rfl | (simp -implicitDefEqProofs only[go_sem,seval,↓reduceIte,List.map_cons,List.map_nil];try rfl)) (by first | rfl | (simp -implicitDefEqProofs only[go_sem,seval,↓reduceIte];try rfl)) (by first | rfl | (simp -implicitDefEqProofs only[go_sem,seval,↓reduceIte];try rfl)) fun gx3=>?_
  simp -implicitDefEqProofs only[go_sem,seval,↓reduceIte,sets]
  simp -implicitDefEqProofs only[go_sem,seval,↓reduceIte,rdO_K]
  rw [← encXN_K ⟨op,0,[],a.last,-1,-1⟩]
  refine RdS.call hG (rPutN_spec G hG sl g a han ⟨op,0,[],a.last,-1,-1⟩) (gx:=gx3) (by kernel_rfl) (fun F=>rfl) (by decide) (by first | rfl | (simp -implicitDefEqProofs only[go_sem,seval,↓reduceIte,List.map_cons,List.map_nil,encXN_K];try rfl)) (by first | rfl | (simp -implicitDefEqProofs only[go_sem,seval,↓reduceIte,List.map_cons,List.map_nil];try rfl)) (by first | rfl | (simp -implicitDefEqProofs only[go_sem,seval,↓reduceIte];try rfl)) (by first | rfl | (simp -implicitDefEqProofs only[go_sem,seval,↓reduceIte];try rfl)) fun gx4=>?_
  simp -implicitDefEqProofs only[go_sem,seval,↓reduceIte,sets]
  refine hK _ ?_
  clear hK K
  refine AW.ret ?_
  simp -implicitDefEqProofs only[go_sem,seval,↓reduceIte]
  refine endK_some ?_
  rw [hP]
  exact ⟨rfl,gx4,by first | rfl | (simp -implicitDefEqProofs only[go_sem,seval,↓reduceIte];try rfl),by first | rfl | (simp -implicitDefEqProofs only[go_sem,seval,↓reduceIte];try rfl)⟩
theorem levK_bal {l:List Tk} {f:Nat} (k:Nat) (r:RS):Bal l 0 r (levK l (climbP l f) k r).2:=by
 rw [levK_climb (climbP_mono l f) (fun _ _=>climbP_ends)]
 exact Bal.then (aheadP_bal (climbP_bal l f) r) fun _=>(aheadP_bal (climbP_bal l f) r).trans (loopP_bal (climbP_bal l f) _ _ _)
theorem tailR_succ (l:List Tk) (inner:Inner) (n:Int) (m:Nat) (r:RS):tailR l inner n (m+1) r=if twoR l n r.i=0 then (true,r) else andThen (inner (n+1) r.adv) fun a=>tailR l inner n m (a.put ⟨twoR l n r.i,0,[],r.last,a.last,-1⟩):=rfl
theorem twoR_op {l:List Tk} {n:Int} {i:Nat} (h:twoR l n i≠0):i<l.length∧twoR l n i≤21:=by
 unfold twoR at h ⊢
 cases ho:ofI (nextP l i).text 2 with
 | none=>rw [ho] at h;exact absurd rfl h
 | some op =>
  have h2:=ofI_two ho
  have:opAt l i=some op:=by rw [opAt_two,ho]
  refine ⟨opAt_lt this,?_⟩
  simp only
  split<;>omega
theorem rLevel_spec (G:Nat→V) (hG:GOk G) (sl:Sl Tk) (hT:TkOk sl.l) (g:Nat):∀ (f:Nat) (r:RS),sl.l.length<f+r.i→RSok sl.l r →
  (∀ n,1≤n→n≤9→RdS 1012 [] G 57 [.int .i64 n] sl g r (.bool (climbP sl.l f n r).1) (climbP sl.l f n r).2) ∧
  RdS 1012 [] G 80 [] sl g r (.bool (climbP sl.l f 9 r).1) (climbP sl.l f 9 r).2:=by
 have hTl:=hT.len
 intro f
 induction f with
 | zero=>intro r hf hr;have:=hr.1;omega
 | succ f ih =>
 intro r hf hr
 have hin:InnR G sl g (climbP sl.l f) r.i:=⟨fun n r' h1 h9 hi hr'=>(ih r' (by omega) hr').1 n h1 h9,fun r' hi hr'=>(ih r' (by omega) hr').2⟩
 have hbs:=climbP_bal sl.l f
 have hun:=rUnary_spec G hG sl hT g r hr _ hin hbs
 have hcl:∀ k:Nat,climbP sl.l (f+1) (9-k) r=levK sl.l (climbP sl.l f) k r:=by
  intro k
  rw [levK_climb (climbP_mono sl.l f) (fun _ _=>climbP_ends)];rfl
 have h9:climbP sl.l (f+1) 9 r=unR sl.l (climbP sl.l f) r:=hcl 0
 rw [h9]
 refine ⟨?_,hun⟩
 suffices h:∀ k:Nat,k≤8→RdS 1012 [] G 57 [.int .i64 (9-k)] sl g r (.bool (levK sl.l (climbP sl.l f) k r).1) (levK sl.l (climbP sl.l f) k r).2 by
  intro n h1 hn9
  have:=h (9-n).toNat (by omega)
  rw [← hcl,show (9:Int)-((9-n).toNat:Nat)=n by omega] at this
  exact this
 intro k
 induction k with
 | zero =>
  intro _ gx
  refine Spec.of_code' 1000 46 [.tmp 4] Tryz.func57 rfl rfl rfl rfl fun X=>?_
  have hP:levK sl.l (climbP sl.l f) 0 r=unR sl.l (climbP sl.l f) r:=rfl
  generalize levK sl.l (climbP sl.l f) 0 r=res at hP ⊢
  generalize unR sl.l (climbP sl.l f) r=y at hP hun
  refine AW.seq_k fun K hK=>AW.region (by kernel_rfl) ?_
  simp -implicitDefEqProofs only[go_sem,seval,↓reduceIte]
  refine hK _ ?_
  clear hK K
  refine AW.seq_k fun K1 hK1=>?_
  refine AW.seq_k fun K hK=>AW.region (by kernel_rfl) ?_
  simp -implicitDefEqProofs only[go_sem,seval,↓reduceIte]
  refine hK _ ?_
  clear hK K
  refine AW.condS (by simp -implicitDefEqProofs only[go_sem,seval,↓reduceIte];rfl) (fun h8=>?_) (fun h8=>?_)
  ·cases h8
  refine AW.skip ?_
  simp -implicitDefEqProofs only[go_sem,seval,↓reduceIte]
  refine hK1 _ ?_
  refine AW.seq_k fun K2 hK2=>?_
  refine AW.seq_k fun K hK=>AW.region (by kernel_rfl) ?_
  simp -implicitDefEqProofs only[go_sem,seval,↓reduceIte]
  refine hK _ ?_
  clear hK K
  refine AW.condS (by simp -implicitDefEqProofs only[go_sem,seval,↓reduceIte];rfl) (fun h12=>?_) (fun h12=>?_)
  rotate_left
  ·cases h12
  refine AW.seq_k fun K hK=>AW.region (by kernel_rfl) ?_
  simp -implicitDefEqProofs only[go_sem,seval,↓reduceIte]
  refine RdS.call hG (hun) (gx:=gx) (by kernel_rfl) (fun F=>rfl) (by decide) (by first | rfl | (simp -implicitDefEqProofs only[go_sem,seval,↓reduceIte,List.map_cons,List.map_nil,encXN_K];try rfl)) (by first | rfl | (simp -implicitDefEqProofs only[go_sem,seval,↓reduceIte,List.map_cons,List.map_nil];try rfl)) (by first | rfl | (simp -implicitDefEqProofs only[go_sem,seval,↓reduceIte];try rfl)) (by first | rfl | (simp -implicitDefEqProofs only[go_sem,seval,↓reduceIte];try rfl)) fun gx1=>?_
  simp -implicitDefEqProofs only[go_sem,seval,↓reduceIte,sets]
  refine hK _ ?_
  clear hK K
  refine AW.ret ?_
  simp -implicitDefEqProofs only[go_sem,seval,↓reduceIte]
  refine endK_some ?_
  rw [hP]
  exact ⟨rfl,gx1,by first | rfl | (simp -implicitDefEqProofs only[go_sem,seval,↓reduceIte];try rfl),by first | rfl | (simp -implicitDefEqProofs only[go_sem,seval,↓reduceIte];try rfl)⟩
 | succ k ihk =>
  intro hk gx
  have ihk:=ihk (by omega)
  obtain ⟨n,hn⟩:∃ n:Int,n=8-k:=⟨_,rfl⟩
  have e9:(9:Int)-((k+1:Nat):Int)=n:=by omega
  have e9k:(9:Int)-(k:Int)=n+1:=by omega
  have hn1:1≤n∧n≤8:=by omega
  rw [e9]
  rw [e9k] at ihk
  refine Spec.of_code' 1000 46 [.tmp 4] Tryz.func57 rfl rfl rfl rfl fun X=>?_
  have hP:levK sl.l (climbP sl.l f) (k+1) r=andThen (levK sl.l (climbP sl.l f) k r) (tailR sl.l (climbP sl.l f) n (sl.l.length+1)):=by rw [levK,hn]
  have hlb:=levK_bal (l:=sl.l) (f:=f) k r
  generalize levK sl.l (climbP sl.l f) (k+1) r=res at hP ⊢
  generalize levK sl.l (climbP sl.l f) k r=y at hP ihk hlb
  obtain ⟨b,q0⟩:=y
  simp only at ihk hlb
  have q10:(n==10)=false:=by rw [beq_eq_false_iff_ne];omega
  have q9:(n==9)=false:=by rw [beq_eq_false_iff_ne];omega
  have hw1:IntKind.i64.wrap (n+1)=n+1:=w64 (by omega) (by omega)
  refine AW.seq_k fun K hK=>AW.region (by kernel_rfl) ?_
  simp -implicitDefEqProofs only[go_sem,seval,↓reduceIte]
  refine hK _ ?_
  clear hK K
  refine AW.seq_k fun K1 hK1=>?_
  refine AW.seq_k fun K hK=>AW.region (by kernel_rfl) ?_
  simp -implicitDefEqProofs only[go_sem,seval,↓reduceIte,q10]
  refine hK _ ?_
  clear hK K
  refine AW.condS (by simp -implicitDefEqProofs only[go_sem,seval,↓reduceIte];rfl) (fun h8=>?_) (fun h8=>?_)
  ·cases h8
  refine AW.skip ?_
  simp -implicitDefEqProofs only[go_sem,seval,↓reduceIte]
  refine hK1 _ ?_
  refine AW.seq_k fun K2 hK2=>?_
  refine AW.seq_k fun K hK=>AW.region (by kernel_rfl) ?_
  simp -implicitDefEqProofs only[go_sem,seval,↓reduceIte,q9]
  refine hK _ ?_
  clear hK K
  refine AW.condS (by simp -implicitDefEqProofs only[go_sem,seval,↓reduceIte];rfl) (fun h12=>?_) (fun h12=>?_)
  ·cases h12
  refine AW.skip ?_
  simp -implicitDefEqProofs only[go_sem,seval,↓reduceIte]
  refine hK2 _ ?_
  refine AW.seq_k fun K3 hK3=>?_
  cases b with
  | false =>
   rw [andThen_false] at hP
   refine AW.seq_k fun K hK=>AW.region (by kernel_rfl) ?_
   simp -implicitDefEqProofs only[go_sem,seval,↓reduceIte,hw1]
   refine RdS.call hG (ihk) (gx:=gx) (by kernel_rfl) (fun F=>rfl) (by decide) (by first | rfl | (simp -implicitDefEqProofs only[go_sem,seval,↓reduceIte,List.map_cons,List.map_nil,encXN_K];try rfl)) (by first | rfl | (simp -implicitDefEqProofs only[go_sem,seval,↓reduceIte,List.map_cons,List.map_nil];try rfl)) (by first | rfl | (simp -implicitDefEqProofs only[go_sem,seval,↓reduceIte];try rfl)) (by first | rfl | (simp -implicitDefEqProofs only[go_sem,seval,↓reduceIte];try rfl)) fun gx1=>?_
   simp -implicitDefEqProofs only[go_sem,seval,↓reduceIte,sets]
   refine hK _ ?_
   clear hK K
   refine AW.condS (by simp -implicitDefEqProofs only[go_sem,seval,↓reduceIte];rfl) (fun h19=>?_) (fun h19=>?_)
   rotate_left
   ·cases h19
   refine AW.seq_k fun K hK=>AW.region (by kernel_rfl) ?_
   simp -implicitDefEqProofs only[go_sem,seval,↓reduceIte]
   refine hK _ ?_
   clear hK K
   refine AW.ret ?_
   simp -implicitDefEqProofs only[go_sem,seval,↓reduceIte]
   refine endK_some ?_
   rw [hP]
   exact ⟨rfl,gx1,by first | rfl | (simp -implicitDefEqProofs only[go_sem,seval,↓reduceIte];try rfl),by first | rfl | (simp -implicitDefEqProofs only[go_sem,seval,↓reduceIte];try rfl)⟩
  | true =>
  rw [andThen_true] at hP
  have hq0:=hlb.ok hr
  refine AW.seq_k fun K hK=>AW.region (by kernel_rfl) ?_
  simp -implicitDefEqProofs only[go_sem,seval,↓reduceIte,hw1]
  refine RdS.call hG (ihk) (gx:=gx) (by kernel_rfl) (fun F=>rfl) (by decide) (by first | rfl | (simp -implicitDefEqProofs only[go_sem,seval,↓reduceIte,List.map_cons,List.map_nil,encXN_K];try rfl)) (by first | rfl | (simp -implicitDefEqProofs only[go_sem,seval,↓reduceIte,List.map_cons,List.map_nil];try rfl)) (by first | rfl | (simp -implicitDefEqProofs only[go_sem,seval,↓reduceIte];try rfl)) (by first | rfl | (simp -implicitDefEqProofs only[go_sem,seval,↓reduceIte];try rfl)) fun gx1=>?_
  simp -implicitDefEqProofs only[go_sem,seval,↓reduceIte,sets]
  refine hK _ ?_
  clear hK K
  refine AW.condS (by simp -implicitDefEqProofs only[go_sem,seval,↓reduceIte];rfl) (fun h19=>?_) (fun h19=>?_)
  ·cases h19
  refine AW.skip ?_
  simp -implicitDefEqProofs only[go_sem,seval,↓reduceIte]
  refine hK3 _ ?_
  refine AW.block ?_
  refine AW.while (fun (x:Nat × Nat × RS)=>st [(0,.ptr 8 g 0),(1,.int .i64 n)] [(8,rdO 1012 [] sl g x.1 x.2.2),(1012,ndO x.1 x.2.2.nodes)])
   (fun x=>res=tailR sl.l (climbP sl.l f) n x.2.1 x.2.2∧RSok sl.l x.2.2∧r.i≤x.2.2.i∧sl.l.length<x.2.1+x.2.2.i) (fun x=>x.2.1) (gx1,sl.l.length+1,q0) ⟨hP,hq0,hlb.up,Nat.lt_add_right _ (Nat.lt_succ_self _)⟩
   (Weak.st (by simp -implicitDefEqProofs only[go_sem,seval,↓reduceIte];try rfl) (by simp -implicitDefEqProofs only[go_sem,seval,↓reduceIte];try rfl)) ?_
  clear hP
  rintro ⟨gy,m,q⟩ ⟨hP,hq,hqi,hm⟩ L3 hL3
  replace hP:res=tailR sl.l (climbP sl.l f) n m q:=hP
  replace hq:RSok sl.l q:=hq
  replace hqi:r.i≤q.i:=hqi
  replace hm:sl.l.length<m+q.i:=hm
  obtain ⟨m,rfl⟩:∃ m',m=m'+1:=⟨m-1,by have:=hq.1;omega⟩
  have hqI:q.i<1000000:=by have:=hq.1;omega
  have hqn:q.nodes.length<1000000:=by have:=hq.1;have:=hq.2;omega
  rw [tailR_succ] at hP
  have htw:=twoR_op (l:=sl.l) (n:=n) (i:=q.i)
  refine AW.block ?_
  refine AW.seq_k fun K hK=>AW.region (by kernel_rfl) ?_
  simp -implicitDefEqProofs only[go_sem,seval,↓reduceIte]
  refine RdS.call hG (rOfTwo_spec G hG sl hT g q hqI n) (gx:=gy) (by kernel_rfl) (fun F=>rfl) (by decide) (by first | rfl | (simp -implicitDefEqProofs only[go_sem,seval,↓reduceIte,List.map_cons,List.map_nil,encXN_K];try rfl)) (by first | rfl | (simp -implicitDefEqProofs only[go_sem,seval,↓reduceIte,List.map_cons,List.map_nil];try rfl)) (by first | rfl | (simp -implicitDefEqProofs only[go_sem,seval,↓reduceIte];try rfl)) (by first | rfl | (simp -implicitDefEqProofs only[go_sem,seval,↓reduceIte];try rfl)) fun gz=>?_
  simp -implicitDefEqProofs only[go_sem,seval,↓reduceIte,sets]
  refine hK _ ?_
  clear hK K
  generalize twoR sl.l n q.i=op at hP htw ⊢
  refine AW.seq_k fun K4 hK4=>?_
  refine AW.seq_k fun K hK=>AW.region (by kernel_rfl) ?_
  simp -implicitDefEqProofs only[go_sem,seval,↓reduceIte]
  refine hK _ ?_
  clear hK K
  by_cases ho:op=0
  ·have e1:(((op:Nat):Int)==0)=true:=by rw [ho];rfl
   rw [if_pos ho] at hP
   rw [e1]
   refine AW.condS (by simp -implicitDefEqProofs only[go_sem,seval,↓reduceIte];rfl) (fun h24=>?_) (fun h24=>?_)
   rotate_left
   ·cases h24
   refine AW.seq_k fun K hK=>AW.region (by kernel_rfl) ?_
   simp -implicitDefEqProofs only[go_sem,seval,↓reduceIte]
   refine hK _ ?_
   clear hK K
   refine AW.ret ?_
   simp -implicitDefEqProofs only[go_sem,seval,↓reduceIte]
   refine endK_some ?_
   rw [hP]
   exact ⟨rfl,gz,by first | rfl | (simp -implicitDefEqProofs only[go_sem,seval,↓reduceIte];try rfl),by first | rfl | (simp -implicitDefEqProofs only[go_sem,seval,↓reduceIte];try rfl)⟩
  have e1:(((op:Nat):Int)==0)=false:=by rw [beq_eq_false_iff_ne];omega
  rw [if_neg ho] at hP
  rw [e1]
  refine AW.condS (by simp -implicitDefEqProofs only[go_sem,seval,↓reduceIte];rfl) (fun h24=>?_) (fun h24=>?_)
  ·cases h24
  refine AW.skip ?_
  simp -implicitDefEqProofs only[go_sem,seval,↓reduceIte]
  refine hK4 _ ?_
  obtain ⟨hil,hop21⟩:=htw ho
  have hw:IntKind.i64.wrap ((q.i:Int)+1)=((q.i+1:Nat):Int):=by rw [w64 (by omega) (by omega)];omega
  have hadv:RSok sl.l q.adv:=(Bal.adv hil).ok hq
  have hc:=hin.lev (n+1) q.adv (by omega) (by omega) (by show r.i<q.i+1;omega) hadv
  have hcb:=hbs (n+1) q.adv
  generalize climbP sl.l f (n+1) q.adv=z at hP hc hcb
  obtain ⟨b,a⟩:=z
  simp only at hc hcb
  have ha:=hcb.ok hadv
  have haup:q.i+1≤a.i:=hcb.up
  have han:a.nodes.length<1000000:=by have:=ha.1;have:=ha.2;omega
  refine AW.seq_k fun K hK=>AW.region (by kernel_rfl) ?_
  simp -implicitDefEqProofs only[go_sem,seval,↓reduceIte]
  refine RdS.call hG (rLast_spec G hG sl g q hqn) (gx:=gz) (by kernel_rfl) (fun F=>rfl) (by decide) (by first | rfl | (simp -implicitDefEqProofs only[go_sem,seval,↓reduceIte,List.map_cons,List.map_nil,encXN_K];try rfl)) (by first | rfl | (simp -implicitDefEqProofs only[go_sem,seval,↓reduceIte,List.map_cons,List.map_nil];try rfl)) (by first | rfl | (simp -implicitDefEqProofs only[go_sem,seval,↓reduceIte];try rfl)) (by first | rfl | (simp -implicitDefEqProofs only[go_sem,seval,↓reduceIte];try rfl)) fun gz1=>?_
  simp -implicitDefEqProofs only[go_sem,seval,↓reduceIte,sets]
  refine hK _ ?_
  clear hK K
  refine AW.seq_k fun K hK=>AW.region (by kernel_rfl) ?_
  simp -implicitDefEqProofs only[go_sem,seval,↓reduceIte,rdO_K,hw]
  refine hK _ ?_
  clear hK K
  refine AW.seq_k fun K10 hK10=>?_
  cases b with
  | false =>
   rw [andThen_false] at hP
   refine AW.seq_k fun K hK=>AW.region (by kernel_rfl) ?_
   simp -implicitDefEqProofs only[go_sem,seval,↓reduceIte,rdO_K,hw1]
   refine RdS.call hG (hc) (gx:=gz1) (by kernel_rfl) (fun F=>rfl) (by decide) (by first | rfl | (simp -implicitDefEqProofs only[go_sem,seval,↓reduceIte,List.map_cons,List.map_nil,encXN_K];try rfl)) (by first | rfl | (simp -implicitDefEqProofs only[go_sem,seval,↓reduceIte,List.map_cons,List.map_nil];try rfl)) (by first | rfl | (simp -implicitDefEqProofs only[go_sem,seval,↓reduceIte];try rfl)) (by first | rfl | (simp -implicitDefEqProofs only[go_sem,seval,↓reduceIte];try rfl)) fun gz2=>?_
   simp -implicitDefEqProofs only[go_sem,seval,↓reduceIte,sets]
   refine hK _ ?_
   clear hK K
   refine AW.condS (by simp -implicitDefEqProofs only[go_sem,seval,↓reduceIte];rfl) (fun h11=>?_) (fun h11=>?_)
   ·refine AW.seq_k fun K hK=>AW.region (by kernel_rfl) ?_
    simp -implicitDefEqProofs only[go_sem,seval,↓reduceIte]
    refine hK _ ?_
    clear hK K
    refine AW.ret ?_
    simp -implicitDefEqProofs only[go_sem,seval,↓reduceIte]
    refine endK_some ?_
    rw [hP]
    exact ⟨rfl,gz2,by first | rfl | (simp -implicitDefEqProofs only[go_sem,seval,↓reduceIte];try rfl),by first | rfl | (simp -implicitDefEqProofs only[go_sem,seval,↓reduceIte];try rfl)⟩
   ·cases h11
  | true =>
   rw [andThen_true] at hP
   refine AW.seq_k fun K hK=>AW.region (by kernel_rfl) ?_
   simp -implicitDefEqProofs only[go_sem,seval,↓reduceIte,rdO_K,hw1]
   refine RdS.call hG (hc) (gx:=gz1) (by kernel_rfl) (fun F=>rfl) (by decide) (by first | rfl | (simp -implicitDefEqProofs only[go_sem,seval,↓reduceIte,List.map_cons,List.map_nil,encXN_K];try rfl)) (by first | rfl | (simp -implicitDefEqProofs only[go_sem,seval,↓reduceIte,List.map_cons,List.map_nil];try rfl)) (by first | rfl | (simp -implicitDefEqProofs only[go_sem,seval,↓reduceIte];try rfl)) (by first | rfl | (simp -implicitDefEqProofs only[go_sem,seval,↓reduceIte];try rfl)) fun gz2=>?_
   simp -implicitDefEqProofs only[go_sem,seval,↓reduceIte,sets]
   refine hK _ ?_
   clear hK K
   refine AW.condS (by simp -implicitDefEqProofs only[go_sem,seval,↓reduceIte];rfl) (fun h11=>?_) (fun h11=>?_)
   ·cases h11
   refine AW.skip ?_
   simp -implicitDefEqProofs only[go_sem,seval,↓reduceIte]
   refine hK10 _ ?_
   refine AW.region (by kernel_rfl) ?_
   simp -implicitDefEqProofs only[go_sem,seval,↓reduceIte]
   refine RdS.call hG (rLast_spec G hG sl g a han) (gx:=gz2) (by kernel_rfl) (fun F=>rfl) (by decide) (by first | rfl | (simp -implicitDefEqProofs only[go_sem,seval,↓reduceIte,List.map_cons,List.map_nil,encXN_K];try rfl)) (by first | rfl | (simp -implicitDefEqProofs only[go_sem,seval,↓reduceIte,List.map_cons,List.map_nil];try rfl)) (by first | rfl | (simp -implicitDefEqProofs only[go_sem,seval,↓reduceIte];try rfl)) (by first | rfl | (simp -implicitDefEqProofs only[go_sem,seval,↓reduceIte];try rfl)) fun gz3=>?_
   simp -implicitDefEqProofs only[go_sem,seval,↓reduceIte,sets]
   simp -implicitDefEqProofs only[go_sem,seval,↓reduceIte,rdO_K]
   rw [← encXN_K ⟨op,0,[],q.last,a.last,-1⟩]
   refine RdS.call hG (rPutN_spec G hG sl g a han ⟨op,0,[],q.last,a.last,-1⟩) (gx:=gz3) (by kernel_rfl) (fun F=>rfl) (by decide) (by first | rfl | (simp -implicitDefEqProofs only[go_sem,seval,↓reduceIte,List.map_cons,List.map_nil,encXN_K];try rfl)) (by first | rfl | (simp -implicitDefEqProofs only[go_sem,seval,↓reduceIte,List.map_cons,List.map_nil];try rfl)) (by first | rfl | (simp -implicitDefEqProofs only[go_sem,seval,↓reduceIte];try rfl)) (by first | rfl | (simp -implicitDefEqProofs only[go_sem,seval,↓reduceIte];try rfl)) fun gz4=>?_
   simp -implicitDefEqProofs only[go_sem,seval,↓reduceIte,sets]
   have hres:RSok sl.l (a.put ⟨op,0,[],q.last,a.last,-1⟩):=⟨ha.1,by
    have h1:=hcb.cnt
    have h2:=hq.2
    show (a.nodes++[_]).length≤a.i
    rw [List.length_append,List.length_singleton]
    have h3:a.nodes.length+(q.i+1)+0≤q.nodes.length+a.i:=h1
    omega⟩
   refine hL3 _ ⟨(gz4,m,a.put ⟨op,0,[],q.last,a.last,-1⟩),Nat.lt_succ_self _,⟨hP,hres,?_,?_⟩,Weak.st (by simp -implicitDefEqProofs only[go_sem,seval,↓reduceIte];try rfl) (by simp -implicitDefEqProofs only[go_sem,seval,↓reduceIte];try exact ⟨rfl,rfl⟩)⟩
   ·show r.i≤a.i
    omega
   ·show sl.l.length<m+a.i
    omega
end Go.Hs
end

section
namespace Go.Hs
open Go.Proofs
set_option maxRecDepth 10000
def encRr (c:Col) (p:List XN × Int × Int):V := .tuple [encXs c p.1,.int .i64 p.2.1,.int .i64 p.2.2]
theorem rFrom_spec (G:Nat→V) (hG:GOk G) (c:Col) (sl:Sl Tk) (hT:TkOk sl.l):Spec Tryz.prog G 34 [encSl c 3 encTk sl] hNone (fun v _=>v=encRr .new (fromP sl.l)):=by
 have hTl:=hT.len
 refine Spec.of_code' 0 34 [.tmp 2,.tmp 3,.tmp 4] Tryz.func34 rfl rfl rfl rfl fun X=>?_
 have hP:fromP sl.l=if (climbP sl.l (sl.l.length+1) 1 ⟨0,[],0⟩).1=false then (([]:List XN),((climbP sl.l (sl.l.length+1) 1 ⟨0,[],0⟩).2.i:Int),(climbP sl.l (sl.l.length+1) 1 ⟨0,[],0⟩).2.e)
  else if depthP (climbP sl.l (sl.l.length+1) 1 ⟨0,[],0⟩).2.nodes > 64 then ([],0,3) else ((climbP sl.l (sl.l.length+1) 1 ⟨0,[],0⟩).2.nodes,((climbP sl.l (sl.l.length+1) 1 ⟨0,[],0⟩).2.i:Int),(0:Int)):=rfl
 have hr0:RSok sl.l ⟨0,[],0⟩:=⟨Nat.zero_le _,Nat.le_refl _⟩
 have hcl:=fun g=>(rLevel_spec G hG sl hT g (sl.l.length+1) ⟨0,[],0⟩ (Nat.lt_succ_self _) hr0).1 1 (by decide) (by decide)
 have hnm2:=climb_names hT
 have hok:=(climbP_bal sl.l (sl.l.length+1) 1 ⟨0,[],0⟩)
 generalize fromP sl.l=res at hP ⊢
 generalize climbP sl.l (sl.l.length+1) 1 ⟨0,[],0⟩=y at hP hcl hok hnm2
 obtain ⟨b,r⟩:=y
 simp only at hP hcl hok hnm2
 have hrl:r.nodes.length<1000000:=by have:=(hok.ok hr0);have h1:=this.1;have h2:=this.2;omega
 refine AW.seq_k fun K hK=>AW.region (by kernel_rfl) ?_
 simp -implicitDefEqProofs only[go_sem,seval,↓reduceIte]
 refine hK _ ?_
 clear hK K
 refine AW.seq_k fun K hK=>AW.region (by kernel_rfl) ?_
 simp -implicitDefEqProofs only[go_sem,seval,↓reduceIte]
 intro g8
 refine hK _ ?_
 clear hK K
 refine AW.weak (Weak.stF (fun _=>false) (l:=[(5,.ptr 8 g8 0)]) (m:=[(8,.cells .new g8 0 [encSl .any 3 encTk sl,.int .i64 0,.nils,.int .i64 0])]) ?_ ?_) ?_
 ·simp -implicitDefEqProofs only[go_sem,seval,↓reduceIte]
  exact Fz.same _
 ·simp only [allFzO_cons,allFzO_nil,and_true]
  exact FzO.of (c := .new) (fz:=0) (cs:=[encSl c 3 encTk sl,.int .i64 0,.nils,.int .i64 0]) rfl (by simp -implicitDefEqProofs only[go_sem,seval,↓reduceIte];try rfl) ⟨Fz.any (recol_tks _ _ _),Fz.same _,Fz.same _,Fz.same _,trivial⟩
 refine AW.seq_k fun K1 hK1=>?_
 refine AW.seq_k fun K hK=>AW.region (by kernel_rfl) ?_
 simp -implicitDefEqProofs only[go_sem,seval,↓reduceIte]
 refine RdS.callN hG (hcl g8) (by kernel_rfl) (fun F=>rfl) rfl rfl rfl _ (by simp -implicitDefEqProofs only[go_sem,seval,↓reduceIte];rfl) (by simp only [V.recolL_eq,List.map_cons,List.map_nil,recol_tks];rfl) (by simp -implicitDefEqProofs only[go_sem,seval,↓reduceIte]) fun gx=>?_
 simp -implicitDefEqProofs only[go_sem,seval,↓reduceIte,sets]
 refine hK _ ?_
 clear hK K
 cases b with
 | false =>
  refine AW.condS (by simp -implicitDefEqProofs only[go_sem,seval,↓reduceIte];rfl) (fun h9=>?_) (fun h9=>?_)
  rotate_left
  ·cases h9
  refine AW.weak (Weak.stF (fun o=>o==8) (l:=[(5,.view .new (.agg [encSl .any 3 encTk sl,.int .i64 r.i,grown 1012 gx 6 r.nodes,.int .i64 r.e]))]) (m:=[]) ?_ trivial) ?_
  ·simp -implicitDefEqProofs only[go_sem,seval,↓reduceIte]
   exact Fz.ptr (v := .agg [encSl .any 3 encTk sl,.int .i64 r.i,grown 1012 gx 6 r.nodes,.int .i64 r.e]) (c := .new) (fz:=0) rfl (by simp -implicitDefEqProofs only[go_sem,seval,↓reduceIte];try rfl)
  refine AW.seq_k fun K hK=>AW.regionT ⟨fun _ => .top,fun _ => .pure⟩ (by kernel_rfl) hG (by kernel_rfl) (by kernel_rfl) ?_
  simp -implicitDefEqProofs only[go_sem,seval,↓reduceIte]
  refine hK _ ?_
  clear hK K
  refine AW.ret ?_
  simp -implicitDefEqProofs only[go_sem,seval,↓reduceIte]
  refine endK_some ?_
  rw [hP];rfl
 | true =>
 refine AW.condS (by simp -implicitDefEqProofs only[go_sem,seval,↓reduceIte];rfl) (fun h9=>?_) (fun h9=>?_)
 ·cases h9
 refine AW.skip ?_
 simp -implicitDefEqProofs only[go_sem,seval,↓reduceIte]
 refine hK1 _ ?_
 refine AW.weak (Weak.stF (fun o=>o==1012) (l:=[(5,.ptr 8 g8 0)]) (m:=[(8,.cells .new g8 0 [encSl .any 3 encTk sl,.int .i64 r.i,encXs .new r.nodes,.int .i64 r.e])]) ?_ ?_) ?_
 ·simp -implicitDefEqProofs only[go_sem,seval,↓reduceIte]
  exact Fz.same _
 ·simp only [allFzO_cons,allFzO_nil,and_true]
  exact FzO.of (c := .new) (fz:=0) (cs:=[encSl .any 3 encTk sl,.int .i64 r.i,grown 1012 gx 6 r.nodes,.int .i64 r.e]) rfl (by simp -implicitDefEqProofs only[go_sem,seval,↓reduceIte];try rfl) ⟨Fz.same _,Fz.same _,Fz.grown rfl (by simp -implicitDefEqProofs only[go_sem,seval,↓reduceIte];try rfl) encXN_cells,Fz.same _,trivial⟩
 rw [if_neg (by simp)] at hP
 refine AW.seq_k fun K2 hK2=>?_
 refine AW.seq_k fun K hK=>AW.region (by kernel_rfl) ?_
 simp -implicitDefEqProofs only[go_sem,seval,↓reduceIte,encXs]
 refine CallA.pure hG (by kernel_rfl) ?_
 simp -implicitDefEqProofs only[go_sem,seval,↓reduceIte,recol_xns]
 refine (rDepthN_spec G hG _ (grownS r.nodes) (by rw [grownS_l];exact hrl) (by rw [grownS_l];exact hnm2)).mono ?_
 rintro _ _ rfl
 rw [grownS_l]
 simp -implicitDefEqProofs only[go_sem,seval,↓reduceIte]
 refine hK _ ?_
 clear hK K
 refine AW.condS (by simp -implicitDefEqProofs only[go_sem,seval,↓reduceIte];rfl) (fun h26=>?_) (fun h26=>?_)
 ·have h26:depthP r.nodes > 64:=by simpa using h26
  rw [if_pos h26] at hP
  refine AW.seq_k fun K hK=>AW.region (by kernel_rfl) ?_
  simp -implicitDefEqProofs only[go_sem,seval,↓reduceIte]
  refine hK _ ?_
  clear hK K
  refine AW.ret ?_
  simp -implicitDefEqProofs only[go_sem,seval,↓reduceIte]
  refine endK_some ?_
  rw [hP];rfl
 have h26:¬ depthP r.nodes > 64:=by simpa using h26
 rw [if_neg h26] at hP
 refine AW.skip ?_
 simp -implicitDefEqProofs only[go_sem,seval,↓reduceIte]
 refine hK2 _ ?_
 refine AW.weak (Weak.stF (fun o=>o==8) (l:=[(5,.view .new (.agg [encSl .any 3 encTk sl,.int .i64 r.i,encXs .new r.nodes,.int .i64 r.e]))]) (m:=[]) ?_ trivial) ?_
 ·simp -implicitDefEqProofs only[go_sem,seval,↓reduceIte]
  exact Fz.ptr (v := .agg [encSl .any 3 encTk sl,.int .i64 r.i,encXs .new r.nodes,.int .i64 r.e]) (c := .new) (fz:=0) rfl (by simp -implicitDefEqProofs only[go_sem,seval,↓reduceIte];try rfl)
 refine AW.seq_k fun K hK=>AW.regionT ⟨fun _ => .top,fun _ => .pure⟩ (by kernel_rfl) hG (by kernel_rfl) (by kernel_rfl) ?_
 simp -implicitDefEqProofs only[go_sem,seval,↓reduceIte,encXs]
 refine hK _ ?_
 clear hK K
 refine AW.ret ?_
 simp -implicitDefEqProofs only[go_sem,seval,↓reduceIte]
 refine endK_some ?_
 rw [hP];rfl
theorem rParse8_spec (G:Nat→V) (hG:GOk G) (s:List UInt8) (hs:s.length<100000):Spec Tryz.prog G 31 [.str s] hNone (fun v _=>v=encRr .new (exprP s)):=by
 refine Spec.of_code' 0 50 [.tmp 2,.tmp 3,.tmp 4] Tryz.func31 rfl rfl rfl rfl fun X=>?_
 have hP:exprP s=if (toksP s).2.2≠0 then (([]:List XN),(toksP s).2.1,(toksP s).2.2)
  else if (fromP (toksP s).1).2.2=3 then ([],0,3)
  else if (fromP (toksP s).1).2.2=0∧(fromP (toksP s).1).2.1=((toksP s).1.length:Nat) then ((fromP (toksP s).1).1,0,0)
  else ([],if (fromP (toksP s).1).2.1=((toksP s).1.length:Nat) then (s.length:Int) else ((toksP s).1.getD (fromP (toksP s).1).2.1.toNat ⟨0,[],0⟩).pos,if (fromP (toksP s).1).2.2=0 then 80 else (fromP (toksP s).1).2.2):=rfl
 generalize exprP s=res at hP ⊢
 have hT:=toks_ok hs
 have hl:=rTokens_spec G hG s hs
 have hfr:=fun c=>rFrom_spec G hG c (grownS (toksP s).1) (by rw [grownS_l];exact hT)
 simp only [grownS_l] at hfr
 have hb:=fromP_bnd (l:=(toksP s).1)
 generalize toksP s=t at hP hT hl hfr hb
 generalize fromP t.1=p at hP hfr hb
 obtain ⟨l,at0,e0⟩:=t
 obtain ⟨ns,i,e⟩:=p
 simp only at hP hT hfr hb
 refine AW.seq_k fun K hK=>AW.region (by kernel_rfl) ?_
 simp -implicitDefEqProofs only[go_sem,seval,↓reduceIte]
 refine hK _ ?_
 clear hK K
 refine AW.seq_k fun K hK=>AW.region (by kernel_rfl) ?_
 simp -implicitDefEqProofs only[go_sem,seval,↓reduceIte]
 refine CallA.pure hG (by kernel_rfl) ?_
 simp -implicitDefEqProofs only[go_sem,seval,↓reduceIte]
 refine hl.mono ?_
 rintro _ _ rfl
 simp -implicitDefEqProofs only[go_sem,seval,↓reduceIte,encTok,encTks,recol_tks]
 refine hK _ ?_
 clear hK K
 refine AW.seq_k fun K1 hK1=>?_
 refine AW.seq_k fun K hK=>AW.region (by kernel_rfl) ?_
 simp -implicitDefEqProofs only[go_sem,seval,↓reduceIte]
 refine hK _ ?_
 clear hK K
 by_cases he0:e0=0
 rotate_left
 ·have q1:(e0 != 0)=true:=by simpa using he0
  rw [if_pos he0] at hP
  rw [q1]
  refine AW.condS (by simp -implicitDefEqProofs only[go_sem,seval,↓reduceIte];rfl) (fun h17=>?_) (fun h17=>?_)
  ·refine AW.seq_k fun K hK=>AW.region (by kernel_rfl) ?_
   simp -implicitDefEqProofs only[go_sem,seval,↓reduceIte]
   refine hK _ ?_
   clear hK K
   refine AW.ret ?_
   simp -implicitDefEqProofs only[go_sem,seval,↓reduceIte]
   refine endK_some ?_
   rw [hP];rfl
  ·cases h17
 have q1:(e0 != 0)=false:=by simpa using he0
 rw [if_neg (by simpa using he0)] at hP
 rw [q1]
 refine AW.condS (by simp -implicitDefEqProofs only[go_sem,seval,↓reduceIte];rfl) (fun h17=>?_) (fun h17=>?_)
 ·cases h17
 refine AW.skip ?_
 simp -implicitDefEqProofs only[go_sem,seval,↓reduceIte]
 refine hK1 _ ?_
 refine AW.seq_k fun K hK=>AW.region (by kernel_rfl) ?_
 simp -implicitDefEqProofs only[go_sem,seval,↓reduceIte]
 refine CallA.pure hG (by kernel_rfl) ?_
 simp -implicitDefEqProofs only[go_sem,seval,↓reduceIte,recol_tks]
 refine (hfr _).mono ?_
 rintro _ _ rfl
 simp -implicitDefEqProofs only[go_sem,seval,↓reduceIte,encRr,encXs,recol_xns]
 refine hK _ ?_
 clear hK K
 refine AW.seq_k fun K2 hK2=>?_
 refine AW.seq_k fun K hK=>AW.region (by kernel_rfl) ?_
 simp -implicitDefEqProofs only[go_sem,seval,↓reduceIte]
 refine hK _ ?_
 clear hK K
 by_cases he3:e=3
 ·have q3:(e==3)=true:=by simpa using he3
  rw [if_pos he3] at hP
  rw [q3]
  refine AW.condS (by simp -implicitDefEqProofs only[go_sem,seval,↓reduceIte];rfl) (fun h27=>?_) (fun h27=>?_)
  ·refine AW.seq_k fun K hK=>AW.region (by kernel_rfl) ?_
   simp -implicitDefEqProofs only[go_sem,seval,↓reduceIte]
   refine hK _ ?_
   clear hK K
   refine AW.ret ?_
   simp -implicitDefEqProofs only[go_sem,seval,↓reduceIte]
   refine endK_some ?_
   rw [hP];rfl
  ·cases h27
 have q3:(e==3)=false:=by simpa using he3
 rw [if_neg he3] at hP
 rw [q3]
 refine AW.condS (by simp -implicitDefEqProofs only[go_sem,seval,↓reduceIte];rfl) (fun h27=>?_) (fun h27=>?_)
 ·cases h27
 refine AW.skip ?_
 simp -implicitDefEqProofs only[go_sem,seval,↓reduceIte]
 refine hK2 _ ?_
 refine AW.seq_k fun K hK=>AW.region (by kernel_rfl) ?_
 simp -implicitDefEqProofs only[go_sem,seval,↓reduceIte]
 refine hK _ ?_
 clear hK K
 obtain ⟨m,rfl⟩:∃ m:Nat,i=m:=⟨i.toNat,by omega⟩
 have hP2:res=if e≠0 then ([],(if (m:Int)=(l.length:Nat) then (s.length:Int) else (l.getD m ⟨0,[],0⟩).pos),e) else if m<l.length then ([],(if (m:Int)=(l.length:Nat) then (s.length:Int) else (l.getD m ⟨0,[],0⟩).pos),80) else (ns,0,0):=by
  rw [hP,Int.toNat_natCast]
  by_cases he:e=0
  ·rw [if_neg (show ¬ e≠0 by simpa using he)]
   by_cases hm:m<l.length
   ·rw [if_neg (by omega),if_pos hm,if_pos he]
   ·rw [if_pos ⟨he,by omega⟩,if_neg hm]
  ·rw [if_pos he,if_neg (fun h=>he h.1),if_neg he]
 clear hP
 generalize hpl:(if (m:Int)=(l.length:Nat) then (s.length:Int) else (l.getD m ⟨0,[],0⟩).pos)=pl at hP2
 refine AW.seqJ (fun (_:Unit)=>st [(0,.str s),(5,encSl .new 3 encTk (grownS l)),(7,.int .i64 e),(8,encSl .new 6 encXN (grownS ns)),(9,.int .i64 m),(10,.int .i64 pl)] []) (fun _=>True) (fun K3 hK3=>?_) ?_
 ·refine AW.seq_k fun K hK=>AW.region (by kernel_rfl) ?_
  simp -implicitDefEqProofs only[go_sem,seval,↓reduceIte]
  refine hK _ ?_
  clear hK K
  by_cases hm:m<l.length
  ·have q4:decide (((m:Nat):Int)<((l.length:Nat):Int))=true:=by rw [decide_eq_true_iff];omega
   obtain ⟨tk,htk⟩:∃ tk,l[m]? = some tk:=⟨_,List.getElem?_eq_getElem hm⟩
   have hgd:l.getD m ⟨0,[],0⟩=tk:=by rw [List.getD_eq_getElem?_getD,htk];rfl
   rw [if_neg (by omega),hgd] at hpl
   rw [q4]
   refine AW.condS (by simp -implicitDefEqProofs only[go_sem,seval,↓reduceIte];rfl) (fun h34=>?_) (fun h34=>?_)
   rotate_left
   ·cases h34
   refine AW.region (by kernel_rfl) ?_
   simp -implicitDefEqProofs only[go_sem,seval,↓reduceIte,htk,encTk_K]
   exact hK3 _ () trivial (Weak.st (by rw [← hpl];simp -implicitDefEqProofs only[go_sem,seval,↓reduceIte];try rfl) (by simp -implicitDefEqProofs only[go_sem,seval,↓reduceIte]))
  ·have q4:decide (((m:Nat):Int)<((l.length:Nat):Int))=false:=by rw [decide_eq_false_iff_not];omega
   rw [if_pos (by omega)] at hpl
   rw [q4]
   refine AW.condS (by simp -implicitDefEqProofs only[go_sem,seval,↓reduceIte];rfl) (fun h34=>?_) (fun h34=>?_)
   ·cases h34
   refine AW.skip ?_
   simp -implicitDefEqProofs only[go_sem,seval,↓reduceIte]
   exact hK3 _ () trivial (Weak.st (by rw [← hpl];simp -implicitDefEqProofs only[go_sem,seval,↓reduceIte];try rfl) (by simp -implicitDefEqProofs only[go_sem,seval,↓reduceIte]))
 intro _ _
 refine AW.seq_k fun K4 hK4=>?_
 refine AW.seq_k fun K hK=>AW.region (by kernel_rfl) ?_
 simp -implicitDefEqProofs only[go_sem,seval,↓reduceIte]
 refine hK _ ?_
 clear hK K
 by_cases he:e=0
 rotate_left
 ·have q5:(e != 0)=true:=by simpa using he
  rw [if_pos he] at hP2
  rw [q5]
  refine AW.condS (by simp -implicitDefEqProofs only[go_sem,seval,↓reduceIte];rfl) (fun h41=>?_) (fun h41=>?_)
  ·refine AW.seq_k fun K hK=>AW.region (by kernel_rfl) ?_
   simp -implicitDefEqProofs only[go_sem,seval,↓reduceIte]
   refine hK _ ?_
   clear hK K
   refine AW.ret ?_
   simp -implicitDefEqProofs only[go_sem,seval,↓reduceIte]
   refine endK_some ?_
   rw [hP2];rfl
  ·cases h41
 have q5:(e != 0)=false:=by simpa using he
 rw [if_neg (by simpa using he)] at hP2
 rw [q5]
 refine AW.condS (by simp -implicitDefEqProofs only[go_sem,seval,↓reduceIte];rfl) (fun h41=>?_) (fun h41=>?_)
 ·cases h41
 refine AW.skip ?_
 simp -implicitDefEqProofs only[go_sem,seval,↓reduceIte]
 refine hK4 _ ?_
 refine AW.seq_k fun K5 hK5=>?_
 refine AW.seq_k fun K hK=>AW.region (by kernel_rfl) ?_
 simp -implicitDefEqProofs only[go_sem,seval,↓reduceIte]
 refine hK _ ?_
 clear hK K
 by_cases hm:m<l.length
 ·have q4:decide (((m:Nat):Int)<((l.length:Nat):Int))=true:=by rw [decide_eq_true_iff];omega
  rw [if_pos hm] at hP2
  rw [q4]
  refine AW.condS (by simp -implicitDefEqProofs only[go_sem,seval,↓reduceIte];rfl) (fun h47=>?_) (fun h47=>?_)
  ·refine AW.seq_k fun K hK=>AW.region (by kernel_rfl) ?_
   simp -implicitDefEqProofs only[go_sem,seval,↓reduceIte]
   refine hK _ ?_
   clear hK K
   refine AW.ret ?_
   simp -implicitDefEqProofs only[go_sem,seval,↓reduceIte]
   refine endK_some ?_
   rw [hP2];rfl
  ·cases h47
 have q4:decide (((m:Nat):Int)<((l.length:Nat):Int))=false:=by rw [decide_eq_false_iff_not];omega
 rw [if_neg hm] at hP2
 rw [q4]
 refine AW.condS (by simp -implicitDefEqProofs only[go_sem,seval,↓reduceIte];rfl) (fun h47=>?_) (fun h47=>?_)
 ·cases h47
 refine AW.skip ?_
 simp -implicitDefEqProofs only[go_sem,seval,↓reduceIte]
 refine hK5 _ ?_
 refine AW.seq_k fun K hK=>AW.region (by kernel_rfl) ?_
 simp -implicitDefEqProofs only[go_sem,seval,↓reduceIte]
 refine hK _ ?_
 clear hK K
 refine AW.ret ?_
 simp -implicitDefEqProofs only[go_sem,seval,↓reduceIte]
 refine endK_some ?_
 rw [hP2];rfl
end Go.Hs
end

section
namespace Go.Hs
open Go.Proofs
set_option maxRecDepth 10000
theorem r9Guard_spec (G:Nat→V) (hG:GOk G) (c1:Col) (s:List UInt8) (names:Sl (List UInt8)) (hs:s.length<100000) (hnl:names.l.length<1000000) :
  Spec Tryz.prog G 24 [.str s,encSl c1 1 V.str names] hNone (fun v _=>v=encRr .new (guardP s names.l)):=by
 refine Spec.of_code' 0 55 [.tmp 4,.tmp 5,.tmp 6] Tryz.func24 rfl rfl rfl rfl fun X=>?_
 have hP:guardP s names.l=if (toksP s).2.2=0∧(toksP s).1.length=0 then ([tr1],0,0)
  else if (exprP s).2.2≠0 then ([],(exprP s).2.1,(exprP s).2.2)
  else if (ofTP names.l (exprP s).1).2.2≠0∨(ofTP names.l (exprP s).1).1≠2 then ([],0,90) else ((exprP s).1,0,0):=rfl
 generalize guardP s names.l=res at hP ⊢
 have hl:=rTokens_spec G hG s hs
 have hx:=rParse8_spec G hG s hs
 have hb:=exprP_bnd hs
 have ho:=fun c c1=>r9Of_spec G hG c c1 (grownS (exprP s).1) names (by rw [grownS_l];omega) (by rw [grownS_l];exact hb.2) hnl
 simp only [grownS_l] at ho
 generalize toksP s=t at hP hl
 generalize exprP s=p at hP hx ho
 obtain ⟨l,at0,e0⟩:=t
 obtain ⟨ns,i,e⟩:=p
 simp only at hP ho
 generalize ofTP names.l ns=o at hP ho
 obtain ⟨k,j,e2⟩:=o
 simp only at hP
 refine AW.seq_k fun K hK=>AW.region (by kernel_rfl) ?_
 simp -implicitDefEqProofs only[go_sem,seval,↓reduceIte]
 refine hK _ ?_
 clear hK K
 refine AW.seq_k fun K hK=>AW.region (by kernel_rfl) ?_
 simp -implicitDefEqProofs only[go_sem,seval,↓reduceIte]
 refine CallA.pure hG (by kernel_rfl) ?_
 simp -implicitDefEqProofs only[go_sem,seval,↓reduceIte]
 refine hl.mono ?_
 rintro _ _ rfl
 simp -implicitDefEqProofs only[go_sem,seval,↓reduceIte,encTok,encTks,recol_tks]
 refine hK _ ?_
 clear hK K
 refine AW.seqJ (fun (_:Unit)=>st [(0,.str s),(1,encSl c1 1 V.str names)] []) (fun _=>¬ (e0=0∧l.length=0)) (fun K1 hK1=>?_) ?_
 ·by_cases h01:e0=0
  rotate_left
  ·have q1:(e0==0)=false:=by simpa using h01
   refine AW.seq_k fun K hK=>AW.region (by kernel_rfl) ?_
   simp -implicitDefEqProofs only[go_sem,seval,↓reduceIte,q1]
   refine hK _ ?_
   clear hK K
   refine AW.condS (by simp -implicitDefEqProofs only[go_sem,seval,↓reduceIte];rfl) (fun h25=>?_) (fun h25=>?_)
   ·cases h25
   refine AW.skip ?_
   simp -implicitDefEqProofs only[go_sem,seval,↓reduceIte]
   exact hK1 _ () (fun h=>h01 h.1) (Weak.st (by simp -implicitDefEqProofs only[go_sem,seval,↓reduceIte]) (by simp -implicitDefEqProofs only[go_sem,seval,↓reduceIte]))
  have q1:(e0==0)=true:=by simpa using h01
  by_cases h02:l.length=0
  ·rw [if_pos ⟨h01,h02⟩] at hP
   have q2:(((l.length:Nat):Int)==0)=true:=by simp [h02]
   refine AW.seq_k fun K hK=>AW.region (by kernel_rfl) ?_
   simp -implicitDefEqProofs only[go_sem,seval,↓reduceIte,q1,q2]
   refine hK _ ?_
   clear hK K
   refine AW.condS (by simp -implicitDefEqProofs only[go_sem,seval,↓reduceIte];rfl) (fun h25=>?_) (fun h25=>?_)
   ·refine AW.seq_k fun K hK=>AW.region (by kernel_rfl) ?_
    simp -implicitDefEqProofs only[go_sem,seval,↓reduceIte]
    intro g30
    refine hK _ ?_
    clear hK K
    refine AW.weak (Weak.stF (fun o=>o==30) (l:=[(4,encXs .new [tr1]),(5,.int .i64 0),(6,.int .i64 0)]) (m:=[]) ?_ trivial) ?_
    ·simp -implicitDefEqProofs only[go_sem,seval,↓reduceIte]
     exact ⟨Fz.sl (f:=encXN) (l:=[tr1]) (m:=6) (g:=g30) (fz:=0) (c := .new) rfl (by simp -implicitDefEqProofs only[go_sem,seval,↓reduceIte];try rfl) encXN_cells,Fz.same _⟩
    refine AW.ret ?_
    simp -implicitDefEqProofs only[go_sem,seval,↓reduceIte]
    refine endK_some ?_
    rw [hP];rfl
   ·cases h25
  have q2:(((l.length:Nat):Int)==0)=false:=by rw [beq_eq_false_iff_ne];omega
  refine AW.seq_k fun K hK=>AW.region (by kernel_rfl) ?_
  simp -implicitDefEqProofs only[go_sem,seval,↓reduceIte,q1,q2]
  refine hK _ ?_
  clear hK K
  refine AW.condS (by simp -implicitDefEqProofs only[go_sem,seval,↓reduceIte];rfl) (fun h25=>?_) (fun h25=>?_)
  ·cases h25
  refine AW.skip ?_
  simp -implicitDefEqProofs only[go_sem,seval,↓reduceIte]
  exact hK1 _ () (fun h=>h02 h.2) (Weak.st (by simp -implicitDefEqProofs only[go_sem,seval,↓reduceIte]) (by simp -implicitDefEqProofs only[go_sem,seval,↓reduceIte]))
 rintro _ h0
 rw [if_neg h0] at hP
 refine AW.seq_k fun K hK=>AW.region (by kernel_rfl) ?_
 simp -implicitDefEqProofs only[go_sem,seval,↓reduceIte]
 refine CallA.pure hG (by kernel_rfl) ?_
 simp -implicitDefEqProofs only[go_sem,seval,↓reduceIte]
 refine hx.mono ?_
 rintro _ _ rfl
 simp -implicitDefEqProofs only[go_sem,seval,↓reduceIte,encRr,encXs,recol_xns]
 refine hK _ ?_
 clear hK K
 refine AW.seq_k fun K2 hK2=>?_
 refine AW.seq_k fun K hK=>AW.region (by kernel_rfl) ?_
 simp -implicitDefEqProofs only[go_sem,seval,↓reduceIte]
 refine hK _ ?_
 clear hK K
 by_cases he:e=0
 rotate_left
 ·have q1:(e != 0)=true:=by simpa using he
  rw [if_pos he] at hP
  rw [q1]
  refine AW.condS (by simp -implicitDefEqProofs only[go_sem,seval,↓reduceIte];rfl) (fun h36=>?_) (fun h36=>?_)
  ·refine AW.seq_k fun K hK=>AW.region (by kernel_rfl) ?_
   simp -implicitDefEqProofs only[go_sem,seval,↓reduceIte]
   refine hK _ ?_
   clear hK K
   refine AW.ret ?_
   simp -implicitDefEqProofs only[go_sem,seval,↓reduceIte]
   refine endK_some ?_
   rw [hP];rfl
  ·cases h36
 have q1:(e != 0)=false:=by simpa using he
 rw [if_neg (by simpa using he)] at hP
 rw [q1]
 refine AW.condS (by simp -implicitDefEqProofs only[go_sem,seval,↓reduceIte];rfl) (fun h36=>?_) (fun h36=>?_)
 ·cases h36
 refine AW.skip ?_
 simp -implicitDefEqProofs only[go_sem,seval,↓reduceIte]
 refine hK2 _ ?_
 refine AW.seq_k fun K hK=>AW.region (by kernel_rfl) ?_
 simp -implicitDefEqProofs only[go_sem,seval,↓reduceIte]
 refine CallA.pure hG (by kernel_rfl) ?_
 simp -implicitDefEqProofs only[go_sem,seval,↓reduceIte,recol_xns]
 refine (ho _ _).mono ?_
 rintro _ _ rfl
 simp -implicitDefEqProofs only[go_sem,seval,↓reduceIte,encO3]
 refine hK _ ?_
 clear hK K
 refine AW.seq_k fun K3 hK3=>?_
 by_cases h2:e2=0
 rotate_left
 ·have q2:(e2 != 0)=true:=by simpa using h2
  rw [if_pos (.inl h2)] at hP
  refine AW.seq_k fun K hK=>AW.region (by kernel_rfl) ?_
  simp -implicitDefEqProofs only[go_sem,seval,↓reduceIte,q2]
  refine hK _ ?_
  clear hK K
  refine AW.condS (by simp -implicitDefEqProofs only[go_sem,seval,↓reduceIte];rfl) (fun h52=>?_) (fun h52=>?_)
  ·refine AW.seq_k fun K hK=>AW.region (by kernel_rfl) ?_
   simp -implicitDefEqProofs only[go_sem,seval,↓reduceIte]
   refine hK _ ?_
   clear hK K
   refine AW.ret ?_
   simp -implicitDefEqProofs only[go_sem,seval,↓reduceIte]
   refine endK_some ?_
   rw [hP];rfl
  ·cases h52
 have q2:(e2 != 0)=false:=by simpa using h2
 by_cases hk:k=2
 rotate_left
 ·have q3:(k != 2)=true:=by simpa using hk
  rw [if_pos (.inr hk)] at hP
  refine AW.seq_k fun K hK=>AW.region (by kernel_rfl) ?_
  simp -implicitDefEqProofs only[go_sem,seval,↓reduceIte,q2,q3]
  refine hK _ ?_
  clear hK K
  refine AW.condS (by simp -implicitDefEqProofs only[go_sem,seval,↓reduceIte];rfl) (fun h52=>?_) (fun h52=>?_)
  ·refine AW.seq_k fun K hK=>AW.region (by kernel_rfl) ?_
   simp -implicitDefEqProofs only[go_sem,seval,↓reduceIte]
   refine hK _ ?_
   clear hK K
   refine AW.ret ?_
   simp -implicitDefEqProofs only[go_sem,seval,↓reduceIte]
   refine endK_some ?_
   rw [hP];rfl
  ·cases h52
 have q3:(k != 2)=false:=by simpa using hk
 rw [if_neg (by rintro (h | h);exact h h2;exact h hk)] at hP
 refine AW.seq_k fun K hK=>AW.region (by kernel_rfl) ?_
 simp -implicitDefEqProofs only[go_sem,seval,↓reduceIte,q2,q3]
 refine hK _ ?_
 clear hK K
 refine AW.condS (by simp -implicitDefEqProofs only[go_sem,seval,↓reduceIte];rfl) (fun h52=>?_) (fun h52=>?_)
 ·cases h52
 refine AW.skip ?_
 simp -implicitDefEqProofs only[go_sem,seval,↓reduceIte]
 refine hK3 _ ?_
 refine AW.seq_k fun K hK=>AW.region (by kernel_rfl) ?_
 simp -implicitDefEqProofs only[go_sem,seval,↓reduceIte]
 refine hK _ ?_
 clear hK K
 refine AW.ret ?_
 simp -implicitDefEqProofs only[go_sem,seval,↓reduceIte]
 refine endK_some ?_
 rw [hP];rfl
end Go.Hs
end

section
namespace Go.Hs
open Go.Proofs
set_option maxRecDepth 10000
theorem exprP_len {s:List UInt8} (hs:s.length<100000):∀ names,(guardP s names).1.length<1000000:=by
 intro names
 have:=(exprP_bnd hs).1
 unfold guardP
 split
 ·show (1:Nat)<_;omega
 split
 ·show (0:Nat)<_;omega
 split
 ·show (0:Nat)<_;omega
 ·show (exprP s).1.length<_;omega
theorem lTypesNames (G:Nat→V) (hE:GExp G) (s:Sl XN) (t:List UInt8) (names:Sl (List UInt8)) :
  Spec Tryz.prog G 5 [.agg [encSl .old 6 encXN s],.str t,encSl .old 1 V.str names] hNone (fun v _=>v = .bool true):=by
 have hG:=hE.ok
 refine Spec.of_code' 0 62 [.tmp 6] Tryz.func5 rfl rfl rfl rfl fun X0=>?_
 refine AW.seq_k fun K hK=>AW.region (by kernel_rfl) ?_
 simp -implicitDefEqProofs only[go_sem,seval,↓reduceIte]
 intro g3
 refine hK _ ?_
 clear hK K
 refine AW.seqJ (fun (_:Unit)=>st [(1,.str t),(2,encSl .old 1 V.str names),(3,.ptr 3 g3 0)] [(3,.cells .new g3 0 [encSl .old 6 encXN s])]) (fun _=>fewT s.l names.l=true∧t.length≤400) (fun K1 hK1=>?_) ?_
 ·refine AW.seq_k fun K hK=>AW.region (by kernel_rfl) ?_
  simp -implicitDefEqProofs only[go_sem,seval,↓reduceIte]
  refine CallA.pure hG (by kernel_rfl) ?_
  simp -implicitDefEqProofs only[go_sem,seval,↓reduceIte,recol_xns]
  refine (wFew_spec G hG _ _ s names).mono ?_
  rintro _ _ rfl
  simp -implicitDefEqProofs only[go_sem,seval,↓reduceIte]
  cases hf:fewT s.l names.l with
  | false =>
   simp -implicitDefEqProofs only[go_sem,seval,↓reduceIte]
   refine hK _ ?_
   clear hK K
   refine AW.condS (by simp -implicitDefEqProofs only[go_sem,seval,↓reduceIte];rfl) (fun h27=>?_) (fun h27=>?_)
   ·refine AW.seq_k fun K hK=>AW.region (by kernel_rfl) ?_
    simp -implicitDefEqProofs only[go_sem,seval,↓reduceIte]
    refine CallA.pure hG (by kernel_rfl) ?_
    simp -implicitDefEqProofs only[go_sem,seval,↓reduceIte,List.map_nil]
    refine (wWorks_spec G hE).mono ?_
    rintro _ _ rfl
    simp -implicitDefEqProofs only[go_sem,seval,↓reduceIte]
    refine hK _ ?_
    clear hK K
    refine AW.ret ?_
    simp -implicitDefEqProofs only[go_sem,seval,↓reduceIte]
    refine endK_some ?_
    rfl
   ·cases h27
  | true =>
  by_cases hz:t.length > 400
  ·have q1:decide (((t.length:Nat):Int) > 400)=true:=by rw [decide_eq_true_iff];omega
   simp -implicitDefEqProofs only[go_sem,seval,↓reduceIte,q1]
   refine hK _ ?_
   clear hK K
   refine AW.condS (by simp -implicitDefEqProofs only[go_sem,seval,↓reduceIte];rfl) (fun h27=>?_) (fun h27=>?_)
   ·refine AW.seq_k fun K hK=>AW.region (by kernel_rfl) ?_
    simp -implicitDefEqProofs only[go_sem,seval,↓reduceIte]
    refine CallA.pure hG (by kernel_rfl) ?_
    simp -implicitDefEqProofs only[go_sem,seval,↓reduceIte,List.map_nil]
    refine (wWorks_spec G hE).mono ?_
    rintro _ _ rfl
    simp -implicitDefEqProofs only[go_sem,seval,↓reduceIte]
    refine hK _ ?_
    clear hK K
    refine AW.ret ?_
    simp -implicitDefEqProofs only[go_sem,seval,↓reduceIte]
    refine endK_some ?_
    rfl
   ·cases h27
  ·have q1:decide (((t.length:Nat):Int) > 400)=false:=by rw [decide_eq_false_iff_not];omega
   simp -implicitDefEqProofs only[go_sem,seval,↓reduceIte,q1]
   refine hK _ ?_
   clear hK K
   refine AW.condS (by simp -implicitDefEqProofs only[go_sem,seval,↓reduceIte];rfl) (fun h27=>?_) (fun h27=>?_)
   ·cases h27
   refine AW.skip ?_
   simp -implicitDefEqProofs only[go_sem,seval,↓reduceIte]
   exact hK1 _ () ⟨hf,by omega⟩ (Weak.st (by simp -implicitDefEqProofs only[go_sem,seval,↓reduceIte];try rfl) (by simp -implicitDefEqProofs only[go_sem,seval,↓reduceIte];try rfl))
 rintro _ ⟨hf,hz⟩
 obtain ⟨hl1,hl2,hl3,hl4⟩:=fewT_true hf
 have hs:s.l.length<1000000:=by omega
 have hnm:∀ n∈s.l,n.name.length<100000:=fun n hn=>by have:=hl4 n hn;omega
 have hnl:names.l.length<1000000:=by omega
 have hgl:=exprP_len (s:=t) (by omega) names.l
 have hGu:=fun c=>tGuard_spec G hE c t names (by omega) hnl
 have hGr:=fun c=>r9Guard_spec G hG c t names (by omega) hnl
 generalize guardP t names.l=p at hGu hGr hgl
 obtain ⟨ns,i,e⟩:=p
 simp only at hgl
 refine AW.seq_k fun K hK=>AW.region (by kernel_rfl) ?_
 simp -implicitDefEqProofs only[go_sem,seval,↓reduceIte]
 refine CallA.pure hG (by kernel_rfl) ?_
 simp -implicitDefEqProofs only[go_sem,seval,↓reduceIte]
 refine (hGu _).mono ?_
 rintro _ _ rfl
 simp -implicitDefEqProofs only[go_sem,seval,↓reduceIte,encFr,encXs,recol_xns]
 intro g7
 refine hK _ ?_
 clear hK K
 refine AW.seq_k fun K hK=>AW.region (by kernel_rfl) ?_
 simp -implicitDefEqProofs only[go_sem,seval,↓reduceIte]
 refine CallA.pure hG (by kernel_rfl) ?_
 simp -implicitDefEqProofs only[go_sem,seval,↓reduceIte]
 refine (hGr _).mono ?_
 rintro _ _ rfl
 simp -implicitDefEqProofs only[go_sem,seval,↓reduceIte,encRr,encXs,recol_xns]
 refine hK _ ?_
 clear hK K
 refine AW.weak (Weak.stF (fun o=>o==3 || o==7) (l:=[(3,.view .new (.agg [encSl .old 6 encXN s])),(7,.view .new (.agg [encSl .new 6 encXN (grownS ns)])),(8,.int .i64 i),(9,.int .i64 e),(10,encSl .new 6 encXN (grownS ns)),(11,.int .i64 i),(12,.int .i64 e)]) (m:=[]) ?_ trivial) ?_
 ·simp -implicitDefEqProofs only[go_sem,seval,↓reduceIte]
  exact ⟨Fz.ptr (v := .agg [encSl .old 6 encXN s]) (c := .new) (fz:=0) rfl (by simp -implicitDefEqProofs only[go_sem,seval,↓reduceIte];try rfl),Fz.ptr (v := .agg [encSl .new 6 encXN (grownS ns)]) (c := .new) (fz:=0) rfl (by simp -implicitDefEqProofs only[go_sem,seval,↓reduceIte];try rfl),Fz.same _,Fz.same _,Fz.same _,Fz.same _,Fz.same _⟩
 have nl:=namesP_len s.l
 generalize hN:namesP s.l=N at nl
 have pN:PureC Tryz.prog G 26 [.agg [encSl .old 6 encXN s]] (encSl .new 1 V.str (grownS N)):=⟨by kernel_rfl,by
  simp -implicitDefEqProofs only[go_sem,seval,↓reduceIte,recol_xns]
  refine (tNames_spec G hE _ s hs hnm).mono ?_
  rintro _ _ rfl
  rw [hN];simp -implicitDefEqProofs only[go_sem,seval,↓reduceIte]⟩
 have pR:PureC Tryz.prog G 17 [.agg [encSl .old 6 encXN s]] (encSl .new 6 encXN (grownS s.l)):=⟨by kernel_rfl,by
  simp -implicitDefEqProofs only[go_sem,seval,↓reduceIte,recol_xns]
  refine (wRef_spec G hG _ s hs).mono ?_
  rintro _ _ rfl
  rw [encXs];simp -implicitDefEqProofs only[go_sem,seval,↓reduceIte,recol_xns]⟩
 have pN2:PureC Tryz.prog G 27 [encSl .new 6 encXN (grownS s.l)] (encSl .new 1 V.str (grownS N)):=⟨by kernel_rfl,by
  simp -implicitDefEqProofs only[go_sem,seval,↓reduceIte,recol_xns]
  refine (r9Names_spec G hG _ (grownS s.l) (by rw [grownS_l];exact hs) (by rw [grownS_l];exact hnm)).mono ?_
  rintro _ _ rfl
  rw [grownS_l,hN];simp -implicitDefEqProofs only[go_sem,seval,↓reduceIte]⟩
 have pS:PureC Tryz.prog G 25 [encSl .new 1 V.str (grownS N),encSl .new 1 V.str (grownS N)] (.bool true):=⟨by kernel_rfl,by
  simp -implicitDefEqProofs only[go_sem,seval,↓reduceIte]
  refine (kSameTexts_spec G hG _ _ (grownS N) (grownS N) (by rw [grownS_l];omega)).mono ?_
  rintro _ _ rfl
  simp;rfl⟩
 have pR2:PureC Tryz.prog G 17 [.agg [encSl .new 6 encXN (grownS ns)]] (encSl .new 6 encXN (grownS ns)):=⟨by kernel_rfl,by
  simp -implicitDefEqProofs only[go_sem,seval,↓reduceIte,recol_xns]
  refine (wRef_spec G hG _ (grownS ns) (by rw [grownS_l];exact hgl)).mono ?_
  rintro _ _ rfl
  rw [encXs,grownS_l];simp -implicitDefEqProofs only[go_sem,seval,↓reduceIte,recol_xns]⟩
 have pS2:PureC Tryz.prog G 28 [encSl .new 6 encXN (grownS ns),encSl .new 6 encXN (grownS ns)] (.bool true):=⟨by kernel_rfl,by
  simp -implicitDefEqProofs only[go_sem,seval,↓reduceIte,recol_xns]
  refine (wSame_spec G hG _ _ (grownS ns) (grownS ns) (by rw [grownS_l];exact hgl)).mono ?_
  rintro _ _ rfl
  simp;rfl⟩
 have pW:PureC Tryz.prog G 15 [] (.bool true):=⟨by kernel_rfl,by
  simp -implicitDefEqProofs only[go_sem,seval,↓reduceIte,List.map_nil]
  refine (wWorks_spec G hE).mono ?_
  rintro _ _ rfl
  rfl⟩
 have e2:(i==i)=true:=by simp
 have e3:(e==e)=true:=by simp
 refine AW.seq_k fun K hK=>AW.regionT ⟨fun i=>if i=1 then encSl .new 1 V.str (grownS N) else if i=3 then encSl .new 6 encXN (grownS s.l) else if i=4 then encSl .new 1 V.str (grownS N) else if i=8 then encSl .new 6 encXN (grownS ns) else .bool true,fun _ => .pure⟩ (by kernel_rfl) hG (by kernel_rfl) (by kernel_rfl) ?_
 simp -implicitDefEqProofs only[go_sem,seval,↓reduceIte,e2,e3]
 refine ⟨pN,pR,pN2,pS,pR2,pS2,pW,?_⟩
 refine hK _ ?_
 clear hK K
 refine AW.ret ?_
 simp -implicitDefEqProofs only[go_sem,seval,↓reduceIte]
 refine endK_some ?_
 rfl
end Go.Hs
end

section
namespace Go.Hs
open Go.Proofs
set_option maxRecDepth 10000
theorem flat_strs (l:List (List UInt8)):flat (l.map V.str)=l.map V.str:=by
 induction l with
 | nil=>rfl
 | cons x r ih=>unfold flat at ih ⊢;rw [List.map_cons,List.flatMap_cons,ih];rfl
theorem srcCells_strs (H:Heap) (c:Col) (s:Sl (List UInt8)):srcCells H 1 (encSl c 1 V.str s)=some (s.l.length,flat (s.l.map V.str)):=by
 rw [flat_strs]
 cases s with
 | nil=>rfl
 | mk b l=>simp [encSl,srcCells,flat_strs,Sl.l]
theorem kindsP_ofTP {names:List (List UInt8)} {l:List XN} (h:(ofTP names l).2.2=0):(kindsP names l).2.2=0:=by
 unfold ofTP at h
 by_cases q:(kindsP names l).2.2=0
 ·exact q
 ·rw [if_pos q] at h;exact h
theorem ofTP_bad {names:List (List UInt8)} {l:List XN} (h:(ofTP names l).2.2≠0):(ofTP names l).1=0:=by
 unfold ofTP at h ⊢
 by_cases q:(kindsP names l).2.2=0
 ·rw [if_neg (by simpa using q)] at h;exact absurd rfl h
 ·rw [if_pos q]
theorem lTypesMore (G:Nat→V) (hE:GExp G) (s:Sl XN) (names more:Sl (List UInt8)) :
  Spec Tryz.prog G 6 [.agg [encSl .old 6 encXN s],encSl .old 1 V.str names,encSl .old 1 V.str more] hNone (fun v _=>v = .bool true):=by
 have hG:=hE.ok
 refine Spec.of_code' 0 121 [.tmp 6] Tryz.func6 rfl rfl rfl rfl fun X0=>?_
 refine AW.seq_k fun K hK=>AW.region (by kernel_rfl) ?_
 simp -implicitDefEqProofs only[go_sem,seval,↓reduceIte]
 intro g3
 refine hK _ ?_
 clear hK K
 refine AW.seqJ (fun (_:Unit)=>st [(1,encSl .old 1 V.str names),(2,encSl .old 1 V.str more),(3,.ptr 3 g3 0)] [(3,.cells .new g3 0 [encSl .old 6 encXN s])]) (fun _=>fewT s.l names.l=true∧fewT s.l more.l=true) (fun K1 hK1=>?_) ?_
 ·cases hf:fewT s.l names.l with
  | false =>
   refine AW.seq_k fun K hK=>AW.region (by kernel_rfl) ?_
   simp -implicitDefEqProofs only[go_sem,seval,↓reduceIte]
   refine CallA.pure hG (by kernel_rfl) ?_
   simp -implicitDefEqProofs only[go_sem,seval,↓reduceIte,recol_xns]
   refine (wFew_spec G hG _ _ s names).mono ?_
   rintro _ _ rfl
   rw [hf]
   simp -implicitDefEqProofs only[go_sem,seval,↓reduceIte]
   refine hK _ ?_
   clear hK K
   refine AW.condS (by simp -implicitDefEqProofs only[go_sem,seval,↓reduceIte];rfl) (fun h27=>?_) (fun h27=>?_)
   ·refine AW.seq_k fun K hK=>AW.region (by kernel_rfl) ?_
    simp -implicitDefEqProofs only[go_sem,seval,↓reduceIte]
    refine CallA.pure hG (by kernel_rfl) ?_
    simp -implicitDefEqProofs only[go_sem,seval,↓reduceIte,List.map_nil]
    refine (wWorks_spec G hE).mono ?_
    rintro _ _ rfl
    simp -implicitDefEqProofs only[go_sem,seval,↓reduceIte]
    refine hK _ ?_
    clear hK K
    refine AW.ret ?_
    simp -implicitDefEqProofs only[go_sem,seval,↓reduceIte]
    refine endK_some ?_
    rfl
   ·cases h27
  | true =>
   refine AW.seq_k fun K hK=>AW.region (by kernel_rfl) ?_
   simp -implicitDefEqProofs only[go_sem,seval,↓reduceIte]
   refine CallA.pure hG (by kernel_rfl) ?_
   simp -implicitDefEqProofs only[go_sem,seval,↓reduceIte,recol_xns]
   refine (wFew_spec G hG _ _ s names).mono ?_
   rintro _ _ rfl
   rw [hf]
   simp -implicitDefEqProofs only[go_sem,seval,↓reduceIte]
   refine CallA.pure hG (by kernel_rfl) ?_
   simp -implicitDefEqProofs only[go_sem,seval,↓reduceIte,recol_xns]
   refine (wFew_spec G hG _ _ s more).mono ?_
   rintro _ _ rfl
   cases hf2:fewT s.l more.l with
   | false =>
    simp -implicitDefEqProofs only[go_sem,seval,↓reduceIte]
    refine hK _ ?_
    clear hK K
    refine AW.condS (by simp -implicitDefEqProofs only[go_sem,seval,↓reduceIte];rfl) (fun h27=>?_) (fun h27=>?_)
    ·refine AW.seq_k fun K hK=>AW.region (by kernel_rfl) ?_
     simp -implicitDefEqProofs only[go_sem,seval,↓reduceIte]
     refine CallA.pure hG (by kernel_rfl) ?_
     simp -implicitDefEqProofs only[go_sem,seval,↓reduceIte,List.map_nil]
     refine (wWorks_spec G hE).mono ?_
     rintro _ _ rfl
     simp -implicitDefEqProofs only[go_sem,seval,↓reduceIte]
     refine hK _ ?_
     clear hK K
     refine AW.ret ?_
     simp -implicitDefEqProofs only[go_sem,seval,↓reduceIte]
     refine endK_some ?_
     rfl
    ·cases h27
   | true =>
    simp -implicitDefEqProofs only[go_sem,seval,↓reduceIte]
    refine hK _ ?_
    clear hK K
    refine AW.condS (by simp -implicitDefEqProofs only[go_sem,seval,↓reduceIte];rfl) (fun h27=>?_) (fun h27=>?_)
    ·cases h27
    refine AW.skip ?_
    simp -implicitDefEqProofs only[go_sem,seval,↓reduceIte]
    exact hK1 _ () ⟨hf,hf2⟩ (Weak.st (by simp -implicitDefEqProofs only[go_sem,seval,↓reduceIte];try rfl) (by simp -implicitDefEqProofs only[go_sem,seval,↓reduceIte];try rfl))
 rintro _ ⟨hf,hf2⟩
 obtain ⟨hl1,hl2,hl3,hl4⟩:=fewT_true hf
 obtain ⟨_,hm2,hm3,_⟩:=fewT_true hf2
 have hs:s.l.length<1000000:=by omega
 have hnm:∀ n∈s.l,n.name.length<100000:=fun n hn=>by have:=hl4 n hn;omega
 have hO:=fun c c1 (N:Sl (List UInt8)) (h:N.l.length<1000000)=>tOf_spec G hE c c1 s N hs hnm h
 have hbad:=ofTP_bad (names:=names.l) (l:=s.l)
 have hgood:=kindsP_ofTP (names:=names.l) (l:=s.l)
 refine AW.seq_k fun K hK=>AW.region (by kernel_rfl) ?_
 simp -implicitDefEqProofs only[go_sem,seval,↓reduceIte]
 refine CallA.pure hG (by kernel_rfl) ?_
 simp -implicitDefEqProofs only[go_sem,seval,↓reduceIte,recol_xns]
 refine (hO _ _ names (by omega)).mono ?_
 rintro _ _ rfl
 generalize hp:ofTP names.l s.l=p at hbad hgood ⊢
 obtain ⟨k,wi,we⟩:=p
 simp only at hbad hgood
 simp -implicitDefEqProofs only[go_sem,seval,↓reduceIte,encO3]
 refine hK _ ?_
 clear hK K
 refine AW.seq_k fun K2 hK2=>?_
 refine AW.seq_k fun K hK=>AW.region (by kernel_rfl) ?_
 simp -implicitDefEqProofs only[go_sem,seval,↓reduceIte]
 refine hK _ ?_
 clear hK K
 by_cases he:we=0
 rotate_left
 ·have q1:(we != 0)=true:=by simpa using he
  have hk0:=hbad he
  subst hk0
  rw [q1]
  refine AW.condS (by simp -implicitDefEqProofs only[go_sem,seval,↓reduceIte];rfl) (fun h42=>?_) (fun h42=>?_)
  rotate_left
  ·cases h42
  refine AW.seq_k fun K hK=>AW.region (by kernel_rfl) ?_
  simp -implicitDefEqProofs only[go_sem,seval,↓reduceIte]
  refine CallA.pure hG (by kernel_rfl) ?_
  simp -implicitDefEqProofs only[go_sem,seval,↓reduceIte,List.map_nil]
  refine (wWorks_spec G hE).mono ?_
  rintro _ _ rfl
  simp -implicitDefEqProofs only[go_sem,seval,↓reduceIte]
  refine hK _ ?_
  clear hK K
  refine AW.ret ?_
  simp -implicitDefEqProofs only[go_sem,seval,↓reduceIte]
  refine endK_some ?_
  rfl
 subst he
 refine AW.condS (by simp -implicitDefEqProofs only[go_sem,seval,↓reduceIte];rfl) (fun h42=>?_) (fun h42=>?_)
 ·cases h42
 refine AW.skip ?_
 simp -implicitDefEqProofs only[go_sem,seval,↓reduceIte]
 refine hK2 _ ?_
 obtain ⟨x,hx,hl,hc,hkx,hW⟩:=kindsP_tree (hgood rfl)
 have hall:ofTP (more.l++names.l) s.l=(kindX names.l x,0,0):=by rw [hl];exact ofTP_append hx hc hkx
 have hown:ofTP (namesP s.l) s.l=(kindX names.l x,0,0):=by rw [hl];exact ofTP_own hx hc hkx
 have hless:∀ i t,(namesP s.l)[i]? = some t→(ofTP ((namesP s.l).take i++(namesP s.l).drop (i+1)) s.l).2.2=90:=by
  intro i t h
  rw [hl] at h ⊢
  exact ofTP_less hx hc h
 have hk:k=kindX names.l x:=by
  have:=ofTP_tree hx hc hkx
  rw [← hl,hp] at this
  exact congrArg Prod.fst this
 have hk12:=kindX_12 (hkx x (top_mem x))
 rw [← hk] at hall hown hk12
 clear hk hW hkx hc hx hgood hbad
 have hown1:=namesP_len s.l
 refine AW.seq_k fun K hK=>AW.region (by kernel_rfl) ?_
 simp -implicitDefEqProofs only[go_sem,seval,↓reduceIte]
 refine hK _ ?_
 clear hK K
 refine AW.seq_k fun K hK=>AW.region (by kernel_rfl) ?_
 simp -implicitDefEqProofs only[go_sem,seval,↓reduceIte,srcCells_strs]
 refine app_grown (f:=V.str) (l:=([]:List (List UInt8))) (l2:=more.l) (g:=0) (fun _=>rfl) rfl rfl rfl (by simp -implicitDefEqProofs only[go_sem,seval,↓reduceIte];try rfl) (roomOk_of (by omega) (by simp;omega)) fun ga=>?_
 rw [List.nil_append]
 simp -implicitDefEqProofs only[go_sem,seval,↓reduceIte]
 refine hK _ ?_
 clear hK K
 refine AW.seq_k fun K hK=>AW.region (by kernel_rfl) ?_
 simp -implicitDefEqProofs only[go_sem,seval,↓reduceIte,srcCells_strs]
 refine app_grown2 (f:=V.str) (l:=more.l) (l2:=names.l) (o:=50) (g:=ga) (fun _=>rfl) rfl rfl rfl (by simp -implicitDefEqProofs only[go_sem,seval,↓reduceIte];try rfl) (roomOk_of (by omega) (by omega)) fun o2 gb ho2=>?_
 have ho2:o2=50∨o2=53:=ho2
 have hne3:o2≠3:=by omega
 have hNl:(more.l++names.l).length<1000000:=by rw [List.length_append];omega
 generalize more.l++names.l=N at hall hNl
 simp -implicitDefEqProofs only[go_sem,seval,↓reduceIte]
 refine hK _ ?_
 clear hK K
 have hF3:(decide (o2=3))=false:=by simpa using hne3
 refine AW.weak (Weak.stF (fun o=>decide (o2=o)) (l:=[(3,.ptr 3 g3 0),(7,.int .u8 k),(10,encSl .new 1 V.str (grownS N))]) (m:=[(3,.cells .new g3 0 [encSl .old 6 encXN s])]) ?_ ?_) ?_
 ·simp -implicitDefEqProofs only[go_sem,seval,↓reduceIte]
  exact ⟨Fz.same _,Fz.same _,Fz.grown (by simp) (by simp -implicitDefEqProofs only[go_sem,seval,↓reduceIte];try rfl) (fun _=>rfl)⟩
 ·simp only [allFzO_cons,allFzO_nil,and_true]
  exact FzO.keep hF3 (by simp -implicitDefEqProofs only[go_sem,seval,↓reduceIte,hne3,hne3.symm];try rfl)
 have hO1:=fun c c1=>hO c c1 (grownS N) (by rw [grownS_l];exact hNl)
 have hO2:=fun c c1=>hO c c1 (grownS (namesP s.l)) (by rw [grownS_l];omega)
 simp only [grownS_l,hall,hown] at hO1 hO2
 refine AW.seq_k fun K hK=>AW.region (by kernel_rfl) ?_
 simp -implicitDefEqProofs only[go_sem,seval,↓reduceIte]
 refine CallA.pure hG (by kernel_rfl) ?_
 simp -implicitDefEqProofs only[go_sem,seval,↓reduceIte,recol_xns]
 refine (hO1 _ _).mono ?_
 rintro _ _ rfl
 simp -implicitDefEqProofs only[go_sem,seval,↓reduceIte,encO3]
 refine hK _ ?_
 clear hK K
 refine AW.seq_k fun K hK=>AW.region (by kernel_rfl) ?_
 simp -implicitDefEqProofs only[go_sem,seval,↓reduceIte]
 refine CallA.pure hG (by kernel_rfl) ?_
 simp -implicitDefEqProofs only[go_sem,seval,↓reduceIte,recol_xns]
 refine (tNames_spec G hE _ s hs hnm).mono ?_
 rintro _ _ rfl
 simp -implicitDefEqProofs only[go_sem,seval,↓reduceIte]
 refine hK _ ?_
 clear hK K
 refine AW.seq_k fun K hK=>AW.region (by kernel_rfl) ?_
 simp -implicitDefEqProofs only[go_sem,seval,↓reduceIte]
 refine CallA.pure hG (by kernel_rfl) ?_
 simp -implicitDefEqProofs only[go_sem,seval,↓reduceIte,recol_xns]
 refine (hO2 _ _).mono ?_
 rintro _ _ rfl
 simp -implicitDefEqProofs only[go_sem,seval,↓reduceIte,encO3]
 refine hK _ ?_
 clear hK K
 refine AW.seqJ (fun (_:Unit)=>st [(3,.ptr 3 g3 0),(14,encSl .new 1 V.str (grownS (namesP s.l)))] [(3,.cells .new g3 0 [encSl .old 6 encXN s])]) (fun _=>True) (fun K4 hK4=>?_) ?_
 ·clear hO1 hO2 hall hown hp
  rcases hk12 with rfl | rfl
  ·refine AW.seq_k fun K hK=>AW.region (by kernel_rfl) ?_
   simp -implicitDefEqProofs only[go_sem,seval,↓reduceIte]
   refine hK _ ?_
   clear hK K
   refine AW.condS (by simp -implicitDefEqProofs only[go_sem,seval,↓reduceIte];rfl) (fun h93=>?_) (fun h93=>?_)
   ·cases h93
   refine AW.skip ?_
   simp -implicitDefEqProofs only[go_sem,seval,↓reduceIte]
   exact hK4 _ () trivial (Weak.st (by simp -implicitDefEqProofs only[go_sem,seval,↓reduceIte];try rfl) (by simp -implicitDefEqProofs only[go_sem,seval,↓reduceIte];try rfl))
  ·refine AW.seq_k fun K hK=>AW.region (by kernel_rfl) ?_
   simp -implicitDefEqProofs only[go_sem,seval,↓reduceIte]
   refine hK _ ?_
   clear hK K
   refine AW.condS (by simp -implicitDefEqProofs only[go_sem,seval,↓reduceIte];rfl) (fun h93=>?_) (fun h93=>?_)
   ·cases h93
   refine AW.skip ?_
   simp -implicitDefEqProofs only[go_sem,seval,↓reduceIte]
   exact hK4 _ () trivial (Weak.st (by simp -implicitDefEqProofs only[go_sem,seval,↓reduceIte];try rfl) (by simp -implicitDefEqProofs only[go_sem,seval,↓reduceIte];try rfl))
 intro _ _
 generalize namesP s.l=own at hless hown1
 refine AW.seq_k fun K5 hK5=>?_
 refine AW.seq_k fun K hK=>AW.region (by kernel_rfl) ?_
 simp -implicitDefEqProofs only[go_sem,seval,↓reduceIte]
 refine hK _ ?_
 clear hK K
 refine AW.block ?_
 refine AW.for own.length (fun i (_:Unit)=>st [(3,.ptr 3 g3 0),(14,encSl .new 1 V.str (grownS own)),(18,.int .i64 i)] [(3,.cells .new g3 0 [encSl .old 6 encXN s])])
  (fun _ _=>True) 0 () (Nat.zero_le _) trivial (Weak.st (by simp -implicitDefEqProofs only[go_sem,seval,↓reduceIte];try rfl) (by simp -implicitDefEqProofs only[go_sem,seval,↓reduceIte];try rfl)) ?_
 intro i _ hi _ L6 hL6
 refine AW.seq_k fun K7 hK7=>?_
 refine AW.seq_k fun K hK=>AW.region (by kernel_rfl) ?_
 simp -implicitDefEqProofs only[go_sem,seval,↓reduceIte]
 refine hK _ ?_
 clear hK K
 refine AW.condS (by simp -implicitDefEqProofs only[go_sem,seval,↓reduceIte];rfl) (fun h97=>?_) (fun h97=>?_)
 ·have hi1:i<own.length:=by simpa using h97
  have hg:=List.getElem?_eq_getElem hi1
  have h90:=hless i _ hg
  refine AW.skip ?_
  simp -implicitDefEqProofs only[go_sem,seval,↓reduceIte]
  refine hK7 _ ?_
  refine AW.seq_k fun K8 hK8=>?_
  refine AW.block ?_
  have hi0:i≤own.length:=hi
  have hi2:i+1≤own.length:=hi1
  have hw1:IntKind.i64.wrap ((i:Int)+1)=((i+1:Nat):Int):=by rw [w64 (by omega) (by omega)];omega
  have ht1:own.take (i-0)=own.take i:=rfl
  have ht2:(own.drop (i+1)).take (own.length-(i+1))=own.drop (i+1):=List.take_of_length_le (by rw [List.length_drop];omega)
  have hlt:(own.take i).length≤60:=by rw [List.length_take];omega
  have hld:(own.drop (i+1)).length≤60:=by rw [List.length_drop];omega
  refine AW.seq_k fun K hK=>AW.region (by kernel_rfl) ?_
  simp -implicitDefEqProofs only[go_sem,seval,↓reduceIte]
  refine hK _ ?_
  clear hK K
  refine AW.seq_k fun K hK=>AW.region (by kernel_rfl) ?_
  simp -implicitDefEqProofs only[go_sem,seval,↓reduceIte,hi0,Nat.zero_le]
  refine app_grown (f:=V.str) (l:=([]:List (List UInt8))) (l2:=own.take (i-0)) (g:=0) (fun _=>rfl) rfl rfl rfl (by simp -implicitDefEqProofs only[go_sem,seval,↓reduceIte];try rfl) (roomOk_of (by omega) (by simp;omega)) fun ga=>?_
  rw [List.nil_append,ht1]
  simp -implicitDefEqProofs only[go_sem,seval,↓reduceIte]
  refine hK _ ?_
  clear hK K
  refine AW.seq_k fun K hK=>AW.region (by kernel_rfl) ?_
  simp -implicitDefEqProofs only[go_sem,seval,↓reduceIte,hw1,hi2,Nat.le_refl]
  refine app_grown2 (f:=V.str) (l:=own.take i) (l2:=(own.drop (i+1)).take (own.length-(i+1))) (o:=104) (g:=ga) (fun _=>rfl) rfl rfl rfl (by simp -implicitDefEqProofs only[go_sem,seval,↓reduceIte];try rfl) (roomOk_of (by omega) (by rw [ht2];omega)) fun o2 gb ho2=>?_
  have ho2:o2=104∨o2=110:=ho2
  have hne3:o2≠3:=by omega
  have hF3:(decide (o2=3))=false:=by simpa using hne3
  have hll:(own.take i++own.drop (i+1)).length<1000000:=by rw [List.length_append];omega
  rw [ht2]
  generalize own.take i++own.drop (i+1)=less at h90 hll
  simp -implicitDefEqProofs only[go_sem,seval,↓reduceIte]
  refine hK _ ?_
  clear hK K
  refine AW.weak (Weak.stF (fun o=>decide (o2=o)) (l:=[(3,.ptr 3 g3 0),(14,encSl .new 1 V.str (grownS own)),(18,.int .i64 i),(19,encSl .new 1 V.str (grownS less))]) (m:=[(3,.cells .new g3 0 [encSl .old 6 encXN s])]) ?_ ?_) ?_
  ·simp -implicitDefEqProofs only[go_sem,seval,↓reduceIte]
   exact ⟨Fz.same _,Fz.same _,Fz.same _,Fz.grown (by simp) (by simp -implicitDefEqProofs only[go_sem,seval,↓reduceIte];try rfl) (fun _=>rfl)⟩
  ·simp only [allFzO_cons,allFzO_nil,and_true]
   exact FzO.keep hF3 (by simp -implicitDefEqProofs only[go_sem,seval,↓reduceIte,hne3,hne3.symm];try rfl)
  have hO3:=fun c c1=>hO c c1 (grownS less) (by rw [grownS_l];exact hll)
  simp only [grownS_l] at hO3
  generalize ofTP less s.l=p3 at hO3 h90
  obtain ⟨k3,j3,e3⟩:=p3
  simp only at h90
  subst h90
  refine AW.seq_k fun K hK=>AW.region (by kernel_rfl) ?_
  simp -implicitDefEqProofs only[go_sem,seval,↓reduceIte]
  refine CallA.pure hG (by kernel_rfl) ?_
  simp -implicitDefEqProofs only[go_sem,seval,↓reduceIte,recol_xns]
  refine (hO3 _ _).mono ?_
  rintro _ _ rfl
  simp -implicitDefEqProofs only[go_sem,seval,↓reduceIte,encO3]
  refine hK _ ?_
  clear hK K
  refine AW.seq_k fun K hK=>AW.region (by kernel_rfl) ?_
  simp -implicitDefEqProofs only[go_sem,seval,↓reduceIte]
  refine hK _ ?_
  clear hK K
  refine AW.condS (by simp -implicitDefEqProofs only[go_sem,seval,↓reduceIte];rfl) (fun h119=>?_) (fun h119=>?_)
  ·cases h119
  refine AW.skip ?_
  simp -implicitDefEqProofs only[go_sem,seval,↓reduceIte]
  refine hK8 _ ?_
  refine AW.region (by kernel_rfl) ?_
  simp -implicitDefEqProofs only[go_sem,seval,↓reduceIte]
  exact hL6 _ ⟨hi1,(),trivial,Weak.st (by simp -implicitDefEqProofs only[go_sem,seval,↓reduceIte];exact congrArg _ (w64 (by omega) (by omega))) (by simp -implicitDefEqProofs only[go_sem,seval,↓reduceIte];try rfl)⟩
 ·refine AW.exit ?_
  simp -implicitDefEqProofs only[go_sem,seval,↓reduceIte]
  refine hK5 _ ?_
  refine AW.seq_k fun K hK=>AW.region (by kernel_rfl) ?_
  simp -implicitDefEqProofs only[go_sem,seval,↓reduceIte]
  refine CallA.pure hG (by kernel_rfl) ?_
  simp -implicitDefEqProofs only[go_sem,seval,↓reduceIte,List.map_nil]
  refine (wWorks_spec G hE).mono ?_
  rintro _ _ rfl
  simp -implicitDefEqProofs only[go_sem,seval,↓reduceIte]
  refine hK _ ?_
  clear hK K
  refine AW.ret ?_
  simp -implicitDefEqProofs only[go_sem,seval,↓reduceIte]
  refine endK_some ?_
  rfl
end Go.Hs
end
