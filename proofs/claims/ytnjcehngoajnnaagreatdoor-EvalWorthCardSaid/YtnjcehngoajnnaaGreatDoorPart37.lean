/- Part 37 of the proof of a statement of seat YtnjcehngoajnnaaGreatDoor: HsGLex4 HsGLexR. -/
import Derived.Test.YtnjcehngoajnnaaGreatDoorPart35
import Derived.Test.YtnjcehngoajnnaaGreatDoorPart36
set_option linter.unusedSimpArgs false
set_option linter.unusedVariables false
section
namespace Go.Hs
open Go.Proofs
set_option maxRecDepth 10000
theorem catMax {m:Nat} (h:m<1000000):((m:Int) > IntKind.i64.max)=False:=by
 rw [eq_iff_iff,iff_false,show IntKind.i64.max=9223372036854775807 from rfl];omega
def encFk (p:Nat × Nat):V := .tuple [.int .i64 p.1,.int .u8 p.2]
theorem lFirst_spec (G:Nat→V) (hE:GExp G) (s:List UInt8) (hs:s.length<100000):Spec Tryz.prog G 77 [.str s] hNone (fun v _=>v=encFk (firstP s)):=by
 have hG:=hE.ok
 refine Spec.of_code' 0 42 [.tmp 2,.tmp 3] Tryz.func77 rfl rfl rfl rfl fun X=>?_
 refine AW.seq_k fun K hK=>AW.region (by kernel_rfl) ?_
 simp -implicitDefEqProofs only[go_sem,seval,↓reduceIte]
 intro g1
 refine hK _ ?_
 clear hK K
 refine AW.seq_k fun K1 hK1=>?_
 refine AW.block ?_
 cases s with
 | nil =>
  refine AW.seq_k fun K hK=>AW.region (by kernel_rfl) ?_
  simp -implicitDefEqProofs only[go_sem,seval,↓reduceIte]
  refine hK _ ?_
  clear hK K
  refine AW.condS (by simp -implicitDefEqProofs only[go_sem,seval,↓reduceIte];rfl) (fun h2=>?_) (fun h2=>?_)
  ·refine AW.seq_k fun K hK=>AW.region (by kernel_rfl) ?_
   simp -implicitDefEqProofs only[go_sem,seval,↓reduceIte]
   refine hK _ ?_
   clear hK K
   refine AW.ret ?_
   simp -implicitDefEqProofs only[go_sem,seval,↓reduceIte]
   refine endK_some ?_
   rfl
  ·cases h2
 | cons c r =>
  cases hp:hasPre [45,45] (c::r) with
  | true =>
   refine AW.seq_k fun K hK=>AW.region (by kernel_rfl) ?_
   simp -implicitDefEqProofs only[go_sem,seval,↓reduceIte]
   refine CallA.pure hG (by kernel_rfl) ?_
   simp -implicitDefEqProofs only[go_sem,seval,↓reduceIte]
   refine (hasPrefix_spec G _ _).mono ?_
   rintro _ _ rfl
   simp -implicitDefEqProofs only[go_sem,seval,↓reduceIte,hp]
   refine hK _ ?_
   clear hK K
   refine AW.condS (by simp -implicitDefEqProofs only[go_sem,seval,↓reduceIte];rfl) (fun h2=>?_) (fun h2=>?_)
   ·refine AW.seq_k fun K hK=>AW.region (by kernel_rfl) ?_
    simp -implicitDefEqProofs only[go_sem,seval,↓reduceIte]
    refine hK _ ?_
    clear hK K
    refine AW.ret ?_
    simp -implicitDefEqProofs only[go_sem,seval,↓reduceIte]
    refine endK_some ?_
    rw [firstP_cons,if_pos hp];rfl
   ·cases h2
  | false =>
   refine AW.seq_k fun K hK=>AW.region (by kernel_rfl) ?_
   simp -implicitDefEqProofs only[go_sem,seval,↓reduceIte]
   refine CallA.pure hG (by kernel_rfl) ?_
   simp -implicitDefEqProofs only[go_sem,seval,↓reduceIte]
   refine (hasPrefix_spec G _ _).mono ?_
   rintro _ _ rfl
   simp -implicitDefEqProofs only[go_sem,seval,↓reduceIte,hp]
   refine hK _ ?_
   clear hK K
   refine AW.condS (by simp -implicitDefEqProofs only[go_sem,seval,↓reduceIte];rfl) (fun h2=>?_) (fun h2=>?_)
   ·cases h2
   clear h2
   refine AW.seq_k fun K hK=>AW.region (by kernel_rfl) ?_
   simp -implicitDefEqProofs only[go_sem,seval,↓reduceIte]
   refine CallA.pure hG (by kernel_rfl) ?_
   simp -implicitDefEqProofs only[go_sem,seval,↓reduceIte]
   refine (lDigit_spec G hG c).mono ?_
   rintro _ _ rfl
   simp -implicitDefEqProofs only[go_sem,seval,↓reduceIte]
   refine hK _ ?_
   clear hK K
   refine AW.condS (by simp -implicitDefEqProofs only[go_sem,seval,↓reduceIte];rfl) (fun h3=>?_) (fun h3=>?_)
   ·refine AW.seq_k fun K hK=>AW.region (by kernel_rfl) ?_
    simp -implicitDefEqProofs only[go_sem,seval,↓reduceIte]
    refine CallA.pure hG (by kernel_rfl) ?_
    simp -implicitDefEqProofs only[go_sem,seval,↓reduceIte]
    refine (lRun_spec G hG _ (by omega) (fDigit hG)).mono ?_
    rintro _ _ rfl
    simp -implicitDefEqProofs only[go_sem,seval,↓reduceIte]
    refine hK _ ?_
    clear hK K
    refine AW.ret ?_
    simp -implicitDefEqProofs only[go_sem,seval,↓reduceIte]
    refine endK_some ?_
    rw [first_dig h3];rfl
   ·refine AW.seq_k fun K hK=>AW.region (by kernel_rfl) ?_
    simp -implicitDefEqProofs only[go_sem,seval,↓reduceIte]
    refine CallA.pure hG (by kernel_rfl) ?_
    simp -implicitDefEqProofs only[go_sem,seval,↓reduceIte]
    refine (lLetter_spec G hG c).mono ?_
    rintro _ _ rfl
    simp -implicitDefEqProofs only[go_sem,seval,↓reduceIte]
    refine hK _ ?_
    clear hK K
    refine AW.condS (by simp -implicitDefEqProofs only[go_sem,seval,↓reduceIte];rfl) (fun h4=>?_) (fun h4=>?_)
    ·have hn:=runL_le isAl (c::r)
     have hw:=words_contains ((c::r).take (runL isAl (c::r))) (runL_all_take isAl (c::r))
     have hf:=first_lt (r:=r) h4
     refine AW.seq_k fun K hK=>AW.region (by kernel_rfl) ?_
     simp -implicitDefEqProofs only[go_sem,seval,↓reduceIte]
     refine CallA.pure hG (by kernel_rfl) ?_
     simp -implicitDefEqProofs only[go_sem,seval,↓reduceIte]
     refine (lRun_spec G hG _ (by omega) (fAl hG)).mono ?_
     rintro _ _ rfl
     simp -implicitDefEqProofs only[go_sem,seval,↓reduceIte]
     refine hK _ ?_
     clear hK K
     generalize runL isAl (c::r)=n at hn hw hf ⊢
     have hn:n≤r.length+1:=hn
     refine AW.seq_k fun K5 hK5=>?_
     have hl0:(List.take n (c::r)).length≤100000:=by rw [List.length_take];omega
     have hl1:=catMax (m:=1+(List.take n (c::r)).length) (by omega)
     have hl2:=catMax (m:=(List.take n (c::r)).length+1+1) (by omega)
     refine AW.seq_k fun K hK=>AW.region (by kernel_rfl) ?_
     simp -implicitDefEqProofs only[go_sem,seval,↓reduceIte,hl1,hl2,hn,Nat.zero_le,Nat.sub_zero,List.append_eq,List.cons_append,List.nil_append]
     refine CallA.pure hG (by kernel_rfl) ?_
     simp -implicitDefEqProofs only[go_sem,seval,↓reduceIte]
     refine (contains_spec G hE wordsT _ (by decide)).mono ?_
     rintro _ _ rfl
     simp -implicitDefEqProofs only[go_sem,seval,↓reduceIte]
     rw [hw]
     refine hK _ ?_
     clear hK K
     refine AW.condS (by simp -implicitDefEqProofs only[go_sem,seval,↓reduceIte];rfl) (fun h6=>?_) (fun h6=>?_)
     ·refine AW.seq_k fun K hK=>AW.region (by kernel_rfl) ?_
      simp -implicitDefEqProofs only[go_sem,seval,↓reduceIte]
      refine hK _ ?_
      clear hK K
      refine AW.ret ?_
      simp -implicitDefEqProofs only[go_sem,seval,↓reduceIte]
      refine endK_some ?_
      rw [hf,if_pos h6];rfl
     ·refine AW.skip ?_
      simp -implicitDefEqProofs only[go_sem,seval,↓reduceIte]
      refine hK5 _ ?_
      refine AW.seq_k fun K hK=>AW.region (by kernel_rfl) ?_
      simp -implicitDefEqProofs only[go_sem,seval,↓reduceIte]
      refine hK _ ?_
      clear hK K
      refine AW.ret ?_
      simp -implicitDefEqProofs only[go_sem,seval,↓reduceIte]
      refine endK_some ?_
      rw [hf,if_neg (by rw [h6];simp)];rfl
    ·refine AW.skip ?_
     simp -implicitDefEqProofs only[go_sem,seval,↓reduceIte]
     refine hK1 _ ?_
     have hf:=first_no (c:=c) (r:=r) (by unfold isAl;rw [h3,h4];rfl) hp
     obtain ⟨cg,hsg⟩:=hE.sg
     refine AW.seq_k fun K hK=>AW.regionAt 0 (by kernel_rfl) rfl rfl ?_
     simp -implicitDefEqProofs only[go_sem,seval,↓reduceIte,List.take_zero]
     refine ⟨_,Gives.sliceView Tryz.underlying212 (by kernel_rfl) (c:=cg) (cs:=signsL.map V.str) (by simp -implicitDefEqProofs only[go_sem,seval,↓reduceIte,hsg]) rfl (fun v hv=>by obtain ⟨t,_,rfl⟩:=List.mem_map.1 hv;rfl),?_⟩
     refine CallA.bor hG [encSl cg.ent 1 V.str (.mk true signsL),.func (.func 113) [] [.view .old (.str (c::r))]] (by kernel_rfl) ⟨?_,Rd.funcL ⟨?_,trivial⟩,trivial⟩ ?_
     ·exact Rd.im (Im.enc (c:=cg) (m:=1) (fun x y hy=>by simp [V.cells] at hy;subst hy;exact .str _) (.mk true signsL)) (recol_encS _ _ _ (.mk true signsL))
     ·exact Rd.ptr (v := .str (c::r)) (c := .new) (fz:=0) (by simp -implicitDefEqProofs only[go_sem,seval,↓reduceIte];try rfl) (by intro y hy;simp [V.cells] at hy;subst hy;exact .str _) (by simp -implicitDefEqProofs only[go_sem,seval,↓reduceIte])
     refine (sIndexFunc_spec G hG _ (.mk true signsL) (by decide) (fPre hG (c::r))).mono ?_
     rintro _ _ rfl
     refine ⟨.int _ _,?_⟩
     simp -implicitDefEqProofs only[go_sem,seval,↓reduceIte]
     refine hK _ ?_
     clear hK K
     have hN:sgnN (c::r)=match signsL.findIdx? (hasPre · (c::r)) with | some i=>(signsL.getD i []).length | none=>0:=by
      unfold sgnN
      rw [List.find?_eq_bind_findIdx?_getElem?]
      cases hi:signsL.findIdx? (hasPre · (c::r)) with
      | none=>rfl
      | some i =>
       have hlt:i<signsL.length:=(List.findIdx?_eq_some_iff_getElem.1 hi).1
       simp only [Option.bind_some,List.getElem?_eq_getElem hlt,List.getD_eq_getElem?_getD,Option.getD_some]
     have hI:idxP (hasPre · (c::r)) signsL=match signsL.findIdx? (hasPre · (c::r)) with | some i=>(i:Int) | none => -1:=rfl
     have hne:∀ i,signsL.findIdx? (hasPre · (c::r))=some i→i<14∧(signsL.getD i []).length≠0:=fun i hi=>by
      have h1:=List.findIdx?_eq_some_iff_getElem.1 hi
      obtain ⟨hlt,_⟩:=h1
      have hlt:i<14:=hlt
      refine ⟨hlt,?_⟩
      have:∀ i,i<14→(signsL.getD i []).length≠0:=by decide
      exact this i hlt
     rw [hI]
     rw [hN] at hf
     cases hi:signsL.findIdx? (hasPre · (c::r)) with
     | none =>
      rw [hi] at hf
      refine AW.seq_k fun K6 hK6=>?_
      refine AW.seq_k fun K hK=>AW.region (by kernel_rfl) ?_
      simp -implicitDefEqProofs only[go_sem,seval,↓reduceIte]
      refine hK _ ?_
      clear hK K
      refine AW.condS (by simp -implicitDefEqProofs only[go_sem,seval,↓reduceIte];rfl) (fun h7=>?_) (fun h7=>?_)
      ·refine AW.seq_k fun K hK=>AW.region (by kernel_rfl) ?_
       simp -implicitDefEqProofs only[go_sem,seval,↓reduceIte]
       refine hK _ ?_
       clear hK K
       refine AW.ret ?_
       simp -implicitDefEqProofs only[go_sem,seval,↓reduceIte]
       refine endK_some ?_
       rw [hf];rfl
      ·cases h7
     | some i =>
      rw [hi] at hf
      obtain ⟨hi14,hi0⟩:=hne i hi
      refine AW.seq_k fun K6 hK6=>?_
      refine AW.seq_k fun K hK=>AW.region (by kernel_rfl) ?_
      simp -implicitDefEqProofs only[go_sem,seval,↓reduceIte]
      refine hK _ ?_
      clear hK K
      refine AW.condS (by simp -implicitDefEqProofs only[go_sem,seval,↓reduceIte];rfl) (fun h7=>?_) (fun h7=>?_)
      ·have h7:decide ((i:Int)<0)=true:=h7
       simp at h7;omega
      ·refine AW.skip ?_
       simp -implicitDefEqProofs only[go_sem,seval,↓reduceIte]
       refine hK6 _ ?_
       have hge:(signsL.map V.str)[i]? = some (.str (signsL.getD i [])):=by
        have hlt:i<signsL.length:=hi14
        rw [List.getElem?_map,List.getElem?_eq_getElem hlt,List.getD_eq_getElem?_getD,List.getElem?_eq_getElem hlt];rfl
       have hi14':(i:Int)<14:=by omega
       refine AW.seq_k fun K hK=>AW.region (by kernel_rfl) ?_
       simp -implicitDefEqProofs only[go_sem,seval,↓reduceIte,hsg,hge,hi14',Int.natCast_nonneg,Nat.mul_one]
       refine hK _ ?_
       clear hK K
       refine AW.ret ?_
       simp -implicitDefEqProofs only[go_sem,seval,↓reduceIte]
       refine endK_some ?_
       rw [hf]
       show _=encFk ((signsL.getD i []).length,if (signsL.getD i []).length=0 then 0 else 4)
       rw [if_neg hi0];rfl
theorem lIs_spec (G:Nat→V) (hE:GExp G) (s:List UInt8) (hs:s.length<100000):Spec Tryz.prog G 64 [.str s] hNone (fun v _=>v = .int .u8 (isP s)):=by
 have hG:=hE.ok
 refine Spec.of_code' 0 19 [.tmp 2] Tryz.func64 rfl rfl rfl rfl fun X=>?_
 refine AW.seq_k fun K hK=>AW.region (by kernel_rfl) ?_
 simp -implicitDefEqProofs only[go_sem,seval,↓reduceIte]
 refine hK _ ?_
 clear hK K
 refine AW.seq_k fun K hK=>AW.region (by kernel_rfl) ?_
 simp -implicitDefEqProofs only[go_sem,seval,↓reduceIte]
 refine CallA.pure hG (by kernel_rfl) ?_
 simp -implicitDefEqProofs only[go_sem,seval,↓reduceIte]
 refine (lFirst_spec G hE s hs).mono ?_
 rintro _ _ rfl
 have hI:isP s=if (firstP s).1≠s.length∨(firstP s).1 > 64 then 0 else (firstP s).2:=rfl
 generalize firstP s=p at hI ⊢
 obtain ⟨n,k⟩:=p
 simp -implicitDefEqProofs only[go_sem,seval,↓reduceIte,encFk]
 refine hK _ ?_
 clear hK K
 refine AW.seq_k fun K2 hK2=>?_
 by_cases h1:n=s.length
 ·have e1:((n:Int) != (s.length:Int))=false:=by simp [h1]
  refine AW.seq_k fun K hK=>AW.region (by kernel_rfl) ?_
  simp -implicitDefEqProofs only[go_sem,seval,↓reduceIte,e1]
  refine hK _ ?_
  clear hK K
  refine AW.condS (by simp -implicitDefEqProofs only[go_sem,seval,↓reduceIte];rfl) (fun h2=>?_) (fun h2=>?_)
  ·have h2:n > 64:=by have h2:decide ((n:Int) > 64)=true:=h2;simp at h2;omega
   refine AW.seq_k fun K hK=>AW.region (by kernel_rfl) ?_
   simp -implicitDefEqProofs only[go_sem,seval,↓reduceIte]
   refine hK _ ?_
   clear hK K
   refine AW.ret ?_
   simp -implicitDefEqProofs only[go_sem,seval,↓reduceIte]
   refine endK_some ?_
   rw [hI,if_pos (.inr h2)];rfl
  ·have h2:¬ n > 64:=by have h2:decide ((n:Int) > 64)=false:=h2;simp at h2;omega
   refine AW.skip ?_
   simp -implicitDefEqProofs only[go_sem,seval,↓reduceIte]
   refine hK2 _ ?_
   refine AW.seq_k fun K hK=>AW.region (by kernel_rfl) ?_
   simp -implicitDefEqProofs only[go_sem,seval,↓reduceIte]
   refine hK _ ?_
   clear hK K
   refine AW.ret ?_
   simp -implicitDefEqProofs only[go_sem,seval,↓reduceIte]
   refine endK_some ?_
   rw [hI,if_neg (fun h=>h.elim (fun h=>h h1) h2)]
 ·have e1:((n:Int) != (s.length:Int))=true:=by
   have h1:¬ ((n:Int)=(s.length:Int)):=by omega
   simpa using h1
  refine AW.seq_k fun K hK=>AW.region (by kernel_rfl) ?_
  simp -implicitDefEqProofs only[go_sem,seval,↓reduceIte,e1]
  refine hK _ ?_
  clear hK K
  refine AW.condS (by simp -implicitDefEqProofs only[go_sem,seval,↓reduceIte];rfl) (fun h2=>?_) (fun h2=>?_)
  ·refine AW.seq_k fun K hK=>AW.region (by kernel_rfl) ?_
   simp -implicitDefEqProofs only[go_sem,seval,↓reduceIte]
   refine hK _ ?_
   clear hK K
   refine AW.ret ?_
   simp -implicitDefEqProofs only[go_sem,seval,↓reduceIte]
   refine endK_some ?_
   rw [hI,if_pos (.inl h1)];rfl
  ·cases h2
def encTk (t:Tk):V := .agg [.int .u8 t.kind,.str t.text,.int .i64 t.pos]
theorem encTk_cells (t:Tk):(encTk t).cells.length=3:=rfl
def encTks (c:Col) (l:List Tk):V:=encSl c 3 encTk (grownS l)
def encTok (r:List Tk × Int × Int):V := .tuple [encTks .new r.1,.int .i64 r.2.1,.int .i64 r.2.2]
theorem toksF_len:∀ (f:Nat) (s:List UInt8) (i:Nat) (acc:List Tk),(toksF f s i acc).1.length≤acc.length+(s.length-i)
 | 0,s,i,acc=>by rw [toksF];exact Nat.le_add_right _ _
 | f+1,s,i,acc=>by
  rw [toksF]
  split
  ·split
   ·exact Nat.zero_le _
   ·rename_i h1 h2
    have:=toksF_len f s (i+(firstP (s.drop i)).1+blk (s.drop (i+(firstP (s.drop i)).1))) (acc++[⟨(firstP (s.drop i)).2,(s.drop i).take (firstP (s.drop i)).1,i⟩])
    simp only [List.length_append,List.length_singleton] at this
    omega
  ·exact Nat.le_add_right _ _
theorem lTokens_spec (G:Nat→V) (hE:GExp G) (s:List UInt8) (hs:s.length<100000):Spec Tryz.prog G 49 [.str s] hNone (fun v _=>v=encTok (toksP s)):=by
 have hG:=hE.ok
 refine Spec.of_code' 0 52 [.tmp 2,.tmp 3,.tmp 4] Tryz.func49 rfl rfl rfl rfl fun X=>?_
 refine AW.seq_k fun K hK=>AW.region (by kernel_rfl) ?_
 simp -implicitDefEqProofs only[go_sem,seval,↓reduceIte]
 refine hK _ ?_
 clear hK K
 refine AW.seq_k fun K1 hK1=>?_
 refine AW.seq_k fun K hK=>AW.region (by kernel_rfl) ?_
 simp -implicitDefEqProofs only[go_sem,seval,↓reduceIte]
 refine hK _ ?_
 clear hK K
 have hT:toksP s=if s.length > 65536 then ([],0,3) else toksF (s.length+1) s (blk s) []:=rfl
 refine AW.condS (by simp -implicitDefEqProofs only[go_sem,seval,↓reduceIte];rfl) (fun h2=>?_) (fun h2=>?_)
 ·have h2:s.length > 65536:=by have h2:decide ((s.length:Int) > 65536)=true:=h2;simp at h2;omega
  refine AW.seq_k fun K hK=>AW.region (by kernel_rfl) ?_
  simp -implicitDefEqProofs only[go_sem,seval,↓reduceIte]
  refine hK _ ?_
  clear hK K
  refine AW.ret ?_
  simp -implicitDefEqProofs only[go_sem,seval,↓reduceIte]
  refine endK_some ?_
  rw [hT,if_pos h2];rfl
 ·have h2:¬ s.length > 65536:=by have h2:decide ((s.length:Int) > 65536)=false:=h2;simp at h2;omega
  rw [if_neg h2] at hT
  refine AW.skip ?_
  simp -implicitDefEqProofs only[go_sem,seval,↓reduceIte]
  refine hK1 _ ?_
  refine AW.seq_k fun K3 hK3=>?_
  refine AW.seq_k fun K hK=>AW.region (by kernel_rfl) ?_
  simp -implicitDefEqProofs only[go_sem,seval,↓reduceIte]
  refine CallA.pure hG (by kernel_rfl) ?_
  simp -implicitDefEqProofs only[go_sem,seval,↓reduceIte]
  refine (lBlanks_spec G hG s (by omega)).mono ?_
  rintro _ _ rfl
  simp -implicitDefEqProofs only[go_sem,seval,↓reduceIte]
  refine hK _ ?_
  clear hK K
  have hb:=blk_le s
  refine AW.block ?_
  refine AW.while (fun (x:Nat × Nat × List Tk)=>st [(0,.str s),(2,grown 47 x.1 3 x.2.2),(3,.int .i64 x.2.1)] [(47,grownO x.1 encTk x.2.2)]) (fun x=>x.2.1≤s.length∧x.2.2.length≤x.2.1∧toksP s=toksF (s.length+1) s x.2.1 x.2.2) (fun x=>s.length-x.2.1) (0,blk s,[]) ⟨hb,Nat.zero_le _,hT⟩
   (Weak.st (by simp -implicitDefEqProofs only[go_sem,seval,↓reduceIte];try rfl) (by simp -implicitDefEqProofs only[go_sem,seval,↓reduceIte];try rfl)) ?_
  rintro ⟨gx,i,acc⟩ ⟨hi,hal,hR⟩ L2 hL2
  have hi:i≤s.length:=hi
  have hal:acc.length≤i:=hal
  have hR:toksP s=toksF (s.length+1) s i acc:=hR
  refine AW.seq_k fun K6 hK6=>?_
  refine AW.seq_k fun K hK=>AW.region (by kernel_rfl) ?_
  simp -implicitDefEqProofs only[go_sem,seval,↓reduceIte]
  refine hK _ ?_
  clear hK K
  refine AW.condS (by simp -implicitDefEqProofs only[go_sem,seval,↓reduceIte];rfl) (fun h4=>?_) (fun h4=>?_)
  ·have hi1:i<s.length:=by simpa using h4
   refine AW.skip ?_
   simp -implicitDefEqProofs only[go_sem,seval,↓reduceIte]
   refine hK6 _ ?_
   refine AW.seq_k fun K7 hK7=>?_
   refine AW.block ?_
   have hfl:=firstP_le (s.drop i)
   rw [List.length_drop] at hfl
   have hst:=toksF_step (f:=s.length+1) (acc:=acc) hi1 (by omega)
   have hbd:=toksF_bad (f:=s.length+1) (acc:=acc) hi1 (by omega)
   refine AW.seq_k fun K hK=>AW.region (by kernel_rfl) ?_
   simp -implicitDefEqProofs only[go_sem,seval,↓reduceIte,hi,Nat.le_refl]
   refine CallA.pure hG (by kernel_rfl) ?_
   simp -implicitDefEqProofs only[go_sem,seval,↓reduceIte]
   refine (lFirst_spec G hE (s.drop i) (by simp;omega)).mono ?_
   rintro _ _ rfl
   generalize firstP (s.drop i)=p at hfl hst hbd ⊢
   obtain ⟨n,k⟩:=p
   simp only at hfl hst hbd
   simp -implicitDefEqProofs only[go_sem,seval,↓reduceIte,encFk]
   refine hK _ ?_
   clear hK K
   refine AW.seq_k fun K8 hK8=>?_
   by_cases hn0:n=0
   ·have e0:((n:Int)==0)=true:=by simp [hn0]
    refine AW.seq_k fun K hK=>AW.region (by kernel_rfl) ?_
    simp -implicitDefEqProofs only[go_sem,seval,↓reduceIte,e0]
    refine hK _ ?_
    clear hK K
    refine AW.condS (by simp -implicitDefEqProofs only[go_sem,seval,↓reduceIte];rfl) (fun h9=>?_) (fun h9=>?_)
    ·refine AW.seq_k fun K hK=>AW.region (by kernel_rfl) ?_
     simp -implicitDefEqProofs only[go_sem,seval,↓reduceIte]
     refine hK _ ?_
     clear hK K
     refine AW.ret ?_
     simp -implicitDefEqProofs only[go_sem,seval,↓reduceIte]
     refine endK_some ?_
     rw [hR,hbd (.inl hn0)];rfl
    ·cases h9
   ·have e0:((n:Int)==0)=false:=by
     rw [beq_eq_false_iff_ne];omega
    refine AW.seq_k fun K hK=>AW.region (by kernel_rfl) ?_
    simp -implicitDefEqProofs only[go_sem,seval,↓reduceIte,e0]
    refine hK _ ?_
    clear hK K
    refine AW.condS (by simp -implicitDefEqProofs only[go_sem,seval,↓reduceIte];rfl) (fun h9=>?_) (fun h9=>?_)
    ·have h9:n > 64:=by have h9:decide ((n:Int) > 64)=true:=h9;simp at h9;omega
     refine AW.seq_k fun K hK=>AW.region (by kernel_rfl) ?_
     simp -implicitDefEqProofs only[go_sem,seval,↓reduceIte]
     refine hK _ ?_
     clear hK K
     refine AW.ret ?_
     simp -implicitDefEqProofs only[go_sem,seval,↓reduceIte]
     refine endK_some ?_
     rw [hR,hbd (.inr h9)];rfl
    ·have h9:¬ n > 64:=by have h9:decide ((n:Int) > 64)=false:=h9;simp at h9;omega
     refine AW.skip ?_
     simp -implicitDefEqProofs only[go_sem,seval,↓reduceIte]
     refine hK8 _ ?_
     have hst:=hst (fun h=>h.elim hn0 h9)
     have hw:IntKind.i64.wrap ((i:Int)+(n:Int))=((i+n:Nat):Int):=by rw [w64 (by omega) (by omega)];omega
     have hin:i≤i+n:=by omega
     have hin2:i+n≤s.length:=by omega
     have hsub:i+n-i=n:=by omega
     refine AW.seq_k fun K hK=>AW.region (by kernel_rfl) ?_
     simp -implicitDefEqProofs only[go_sem,seval,↓reduceIte,hw,hin,hin2,hsub]
     intro g46
     refine app_grown (f:=encTk) (l:=acc) (l2:=[⟨k,(s.drop i).take n,i⟩]) (g:=gx) encTk_cells rfl rfl rfl (by simp -implicitDefEqProofs only[go_sem,seval,↓reduceIte]) (roomOk_of (by omega) (by simp;omega)) fun g47=>?_
     simp -implicitDefEqProofs only[go_sem,seval,↓reduceIte]
     refine hK _ ?_
     clear hK K
     refine AW.region (by kernel_rfl) ?_
     simp -implicitDefEqProofs only[go_sem,seval,↓reduceIte,hw]
     refine hK7 _ ?_
     have hbl:=blk_le (s.drop (i+n))
     rw [List.length_drop] at hbl
     have hw2:IntKind.i64.wrap (((i+n:Nat):Int)+(blk (s.drop (i+n)):Nat))=((i+n+blk (s.drop (i+n)):Nat):Int):=by rw [w64 (by omega) (by omega)];omega
     refine AW.region (by kernel_rfl) ?_
     simp -implicitDefEqProofs only[go_sem,seval,↓reduceIte,hin2,Nat.le_refl]
     refine CallA.pure hG (by kernel_rfl) ?_
     simp -implicitDefEqProofs only[go_sem,seval,↓reduceIte]
     refine (lBlanks_spec G hG (s.drop (i+n)) (by simp;omega)).mono ?_
     rintro _ _ rfl
     simp -implicitDefEqProofs only[go_sem,seval,↓reduceIte]
     refine hL2 _ ⟨(g47,i+n+blk (s.drop (i+n)),acc++[⟨k,(s.drop i).take n,i⟩]),?_,⟨?_,?_,?_⟩,Weak.st (by simp -implicitDefEqProofs only[go_sem,seval,↓reduceIte];exact congrArg _ hw2) (by simp -implicitDefEqProofs only[go_sem,seval,↓reduceIte])⟩
     ·show s.length-(i+n+blk (s.drop (i+n)))<s.length-i
      omega
     ·show i+n+blk (s.drop (i+n))≤s.length
      omega
     ·show (acc++[_]).length≤i+n+blk (s.drop (i+n))
      simp only [List.length_append,List.length_singleton];omega
     ·rw [hR];exact hst
  ·have hi1:¬ i<s.length:=by simpa using h4
   refine AW.exit ?_
   simp -implicitDefEqProofs only[go_sem,seval,↓reduceIte]
   refine hK3 _ ?_
   refine AW.weak (Weak.stF (fun o=>o==47) (l:=[(2,encTks .new acc)]) (m:=[]) ?_ trivial) ?_
   ·simp -implicitDefEqProofs only[go_sem,seval,↓reduceIte]
    exact Fz.grown rfl rfl encTk_cells
   refine AW.seq_k fun K hK=>AW.region (by kernel_rfl) ?_
   simp -implicitDefEqProofs only[go_sem,seval,↓reduceIte]
   refine hK _ ?_
   clear hK K
   refine AW.ret ?_
   simp -implicitDefEqProofs only[go_sem,seval,↓reduceIte]
   refine endK_some ?_
   rw [hR,toksF_end hi1];rfl
end Go.Hs
end

section
namespace Go.Hs
open Go.Proofs
set_option maxRecDepth 10000
theorem rDg_spec (G:Nat→V) (hG:GOk G) (c:UInt8):Spec Tryz.prog G 150 [.int .u8 c.toNat] hNone (fun v _=>v = .bool (isDig c)):=by
 refine Spec.of_code' 0 9 [.tmp 2] Tryz.func150 rfl rfl rfl rfl fun X=>?_
 have key:isDig c=(decide ((c.toNat:Int)≥48) && decide ((c.toNat:Int)≤57)):=by
  unfold isDig
  congr 1
  ·rw [decide_eq_decide];omega
  ·rw [decide_eq_decide];omega
 rw [key]
 refine AW.seq_k fun K hK=>AW.region (by kernel_rfl) ?_
 simp -implicitDefEqProofs only[go_sem,seval,↓reduceIte]
 refine hK _ ?_
 clear hK K
 cases h1:decide ((c.toNat:Int)≥48)<;>cases h2:decide ((c.toNat:Int)≤57)<;>((refine AW.seq_k fun K hK=>AW.region (by kernel_rfl) ?_;simp -implicitDefEqProofs only[go_sem,seval,↓reduceIte,h1,h2];refine hK _ ?_;clear hK K);(refine AW.ret ?_;simp -implicitDefEqProofs only[go_sem,seval,↓reduceIte];refine endK_some ?_);rfl)
theorem rLt_spec (G:Nat→V) (hG:GOk G) (c:UInt8):Spec Tryz.prog G 149 [.int .u8 c.toNat] hNone (fun v _=>v = .bool (isLt c)):=by
 refine Spec.of_code' 0 21 [.tmp 2] Tryz.func149 rfl rfl rfl rfl fun X=>?_
 have key:isLt c=((decide ((c.toNat:Int)≥65) && decide ((c.toNat:Int)≤90) || (decide ((c.toNat:Int)≥97) && decide ((c.toNat:Int)≤122))) || c==95):=by
  have:=u8_all (fun c=>isLt c==((decide ((c.toNat:Int)≥65) && decide ((c.toNat:Int)≤90) || (decide ((c.toNat:Int)≥97) && decide ((c.toNat:Int)≤122))) || c==95)) (by decide +kernel) c
  simpa using this
 rw [key]
 refine AW.seq_k fun K hK=>AW.region (by kernel_rfl) ?_
 simp -implicitDefEqProofs only[go_sem,seval,↓reduceIte]
 refine hK _ ?_
 clear hK K
 cases h1:decide ((c.toNat:Int)≥65)<;>cases h2:decide ((c.toNat:Int)≤90)<;>cases h3:decide ((c.toNat:Int)≥97)<;>cases h4:decide ((c.toNat:Int)≤122)<;>cases h5:(c==95)<;>((refine AW.seq_k fun K hK=>AW.region (by kernel_rfl) ?_;simp -implicitDefEqProofs only[go_sem,seval,↓reduceIte,u8q95,h1,h2,h3,h4,h5];refine hK _ ?_;clear hK K);(refine AW.ret ?_;simp -implicitDefEqProofs only[go_sem,seval,↓reduceIte];refine endK_some ?_);rfl)
theorem rAmong_spec (G:Nat→V) (hG:GOk G) (c:Col) (t:List UInt8) (s:Sl (List UInt8)) (hs:s.l.length<1000000) :
  Spec Tryz.prog G 148 [.str t,encSl c 1 V.str s] hNone (fun v _=>v = .bool (s.l.contains t)):=by
 refine Spec.of_code' 0 18 [.tmp 4] Tryz.func148 rfl rfl rfl rfl fun X=>?_
 refine AW.seq_k fun K hK=>AW.region (by kernel_rfl) ?_
 simp -implicitDefEqProofs only[go_sem,seval,↓reduceIte]
 refine hK _ ?_
 clear hK K
 refine AW.seq_k fun K1 hK1=>?_
 refine AW.seq_k fun K hK=>AW.region (by kernel_rfl) ?_
 simp -implicitDefEqProofs only[go_sem,seval,↓reduceIte]
 refine hK _ ?_
 clear hK K
 refine AW.block ?_
 refine AW.for s.l.length (fun k (_:Unit)=>st [(0,.str t),(1,encSl c 1 V.str s),(5,.int .i64 k)] []) (fun k _=>(s.l.take k).contains t=false) 0 () (Nat.zero_le _) rfl
  (Weak.st (by simp -implicitDefEqProofs only[go_sem,seval,↓reduceIte];try rfl) (by simp -implicitDefEqProofs only[go_sem,seval,↓reduceIte])) ?_
 intro k _ hk hR L2 hL2
 refine AW.seq_k fun K3 hK3=>?_
 refine AW.seq_k fun K hK=>AW.region (by kernel_rfl) ?_
 simp -implicitDefEqProofs only[go_sem,seval,↓reduceIte]
 refine hK _ ?_
 clear hK K
 refine AW.condS (by simp -implicitDefEqProofs only[go_sem,seval,↓reduceIte];rfl) (fun h4=>?_) (fun h4=>?_)
 ·have hk1:k<s.l.length:=by simpa using h4
  have hg:=List.getElem?_eq_getElem hk1
  have htk:s.l.take (k+1)=s.l.take k++[s.l[k]]:=by rw [List.take_succ_eq_append_getElem hk1]
  have hmem:=List.getElem_mem hk1
  generalize s.l[k]=x at hg htk hmem
  refine AW.skip ?_
  simp -implicitDefEqProofs only[go_sem,seval,↓reduceIte]
  refine hK3 _ ?_
  refine AW.seq_k fun K5 hK5=>?_
  refine AW.block ?_
  refine AW.seq_k fun K hK=>AW.region (by kernel_rfl) ?_
  simp -implicitDefEqProofs only[go_sem,seval,↓reduceIte,hg]
  refine hK _ ?_
  clear hK K
  refine AW.condS (by simp -implicitDefEqProofs only[go_sem,seval,↓reduceIte];rfl) (fun h6=>?_) (fun h6=>?_)
  ·have h6:x=t:=by simpa using h6
   refine AW.seq_k fun K hK=>AW.region (by kernel_rfl) ?_
   simp -implicitDefEqProofs only[go_sem,seval,↓reduceIte]
   refine hK _ ?_
   clear hK K
   refine AW.ret ?_
   simp -implicitDefEqProofs only[go_sem,seval,↓reduceIte]
   refine endK_some ?_
   have:s.l.contains t=true:=by rw [← h6];simpa using hmem
   rw [this]
  ·have h6:¬ x=t:=by simpa using h6
   refine AW.skip ?_
   simp -implicitDefEqProofs only[go_sem,seval,↓reduceIte]
   refine hK5 _ ?_
   refine AW.region (by kernel_rfl) ?_
   simp -implicitDefEqProofs only[go_sem,seval,↓reduceIte]
   refine hL2 _ ⟨hk1,(),?_,Weak.st (by simp -implicitDefEqProofs only[go_sem,seval,↓reduceIte];exact congrArg _ (w64 (by omega) (by omega))) (by simp -implicitDefEqProofs only[go_sem,seval,↓reduceIte])⟩
   rw [htk]
   simp only [List.contains_eq_mem,decide_eq_false_iff_not] at hR ⊢
   intro hm
   rcases List.mem_append.1 hm with h | h
   ·exact hR h
   ·exact h6 ((List.mem_singleton.1 h).symm)
 ·have hk1:k=s.l.length:=by simp at h4;omega
  refine AW.exit ?_
  simp -implicitDefEqProofs only[go_sem,seval,↓reduceIte]
  refine hK1 _ ?_
  refine AW.seq_k fun K hK=>AW.region (by kernel_rfl) ?_
  simp -implicitDefEqProofs only[go_sem,seval,↓reduceIte]
  refine hK _ ?_
  clear hK K
  refine AW.ret ?_
  simp -implicitDefEqProofs only[go_sem,seval,↓reduceIte]
  refine endK_some ?_
  rw [hk1,List.take_length] at hR
  rw [hR]
theorem rWhole_spec (G:Nat→V) (hG:GOk G) (s:List UInt8) (hs:s.length<1000000):Spec Tryz.prog G 120 [.str s] hNone (fun v _=>v = .int .u8 (wholeP s)):=by
 refine Spec.of_code' 0 45 [.tmp 2] Tryz.func120 rfl rfl rfl rfl fun X=>?_
 have hW1:signsL.contains s=true→wholeP s=4:=fun h=>by unfold wholeP;rw [if_pos h]
 have hW2:signsL.contains s=false→wordsL.contains s=true→wholeP s=3:=fun h h2=>by unfold wholeP;rw [if_neg (by rw [h];simp),if_pos h2]
 have hW3:∀ c r,s=c::r→signsL.contains s=false→wordsL.contains s=false→wholeP s=if s.all isDig then 1 else if isLt c && s.all isAl then 2 else 0:=by
  rintro c r rfl h h2
  unfold wholeP;rw [if_neg (by rw [h];simp),if_neg (by rw [h2];simp)]
 refine AW.seq_k fun K hK=>AW.region (by kernel_rfl) ?_
 simp -implicitDefEqProofs only[go_sem,seval,↓reduceIte]
 refine hK _ ?_
 clear hK K
 refine AW.seq_k fun K1 hK1=>?_
 refine AW.seq_k fun K hK=>AW.region (by kernel_rfl) ?_
 simp -implicitDefEqProofs only[go_sem,seval,↓reduceIte]
 intro g
 refine CallA.bor hG [.str s,encSl .old 1 V.str (.mk false signsL)] (by kernel_rfl) ⟨Rd.im (.str _) rfl,Rd.msl (off:=0) (n:=14) (l:=signsL) (f:=V.str) (f':=V.str) (g:=g) (fz:=0) (c := .new) (by simp -implicitDefEqProofs only[go_sem,seval,↓reduceIte];rfl) (fun _=>rfl) (fun x y hy=>by simp [V.cells] at hy;subst hy;exact .str _) (fun _=>rfl) (by decide),trivial⟩ ?_
 refine (rAmong_spec G hG _ s (.mk false signsL) (by decide)).mono ?_
 rintro _ _ rfl
 refine ⟨.bool _,?_⟩
 simp -implicitDefEqProofs only[go_sem,seval,↓reduceIte]
 refine hK _ ?_
 clear hK K
 refine AW.condS (by simp -implicitDefEqProofs only[go_sem,seval,↓reduceIte];rfl) (fun h2=>?_) (fun h2=>?_)
 ·refine AW.seq_k fun K hK=>AW.region (by kernel_rfl) ?_
  simp -implicitDefEqProofs only[go_sem,seval,↓reduceIte]
  refine hK _ ?_
  clear hK K
  refine AW.ret ?_
  simp -implicitDefEqProofs only[go_sem,seval,↓reduceIte]
  refine endK_some ?_
  rw [hW1 h2];rfl
 refine AW.skip ?_
 simp -implicitDefEqProofs only[go_sem,seval,↓reduceIte]
 refine hK1 _ ?_
 refine AW.seq_k fun K3 hK3=>?_
 refine AW.seq_k fun K hK=>AW.region (by kernel_rfl) ?_
 simp -implicitDefEqProofs only[go_sem,seval,↓reduceIte]
 intro g
 refine CallA.bor hG [.str s,encSl .old 1 V.str (.mk false wordsL)] (by kernel_rfl) ⟨Rd.im (.str _) rfl,Rd.msl (off:=0) (n:=14) (l:=wordsL) (f:=V.str) (f':=V.str) (g:=g) (fz:=0) (c := .new) (by simp -implicitDefEqProofs only[go_sem,seval,↓reduceIte];rfl) (fun _=>rfl) (fun x y hy=>by simp [V.cells] at hy;subst hy;exact .str _) (fun _=>rfl) (by decide),trivial⟩ ?_
 refine (rAmong_spec G hG _ s (.mk false wordsL) (by decide)).mono ?_
 rintro _ _ rfl
 refine ⟨.bool _,?_⟩
 simp -implicitDefEqProofs only[go_sem,seval,↓reduceIte]
 refine hK _ ?_
 clear hK K
 refine AW.condS (by simp -implicitDefEqProofs only[go_sem,seval,↓reduceIte];rfl) (fun h4=>?_) (fun h4=>?_)
 ·refine AW.seq_k fun K hK=>AW.region (by kernel_rfl) ?_
  simp -implicitDefEqProofs only[go_sem,seval,↓reduceIte]
  refine hK _ ?_
  clear hK K
  refine AW.ret ?_
  simp -implicitDefEqProofs only[go_sem,seval,↓reduceIte]
  refine endK_some ?_
  rw [hW2 h2 h4];rfl
 refine AW.skip ?_
 simp -implicitDefEqProofs only[go_sem,seval,↓reduceIte]
 refine hK3 _ ?_
 refine AW.seq_k fun K5 hK5=>?_
 cases s with
 | nil =>
  refine AW.seq_k fun K hK=>AW.region (by kernel_rfl) ?_
  simp -implicitDefEqProofs only[go_sem,seval,↓reduceIte]
  refine hK _ ?_
  clear hK K
  refine AW.condS (by simp -implicitDefEqProofs only[go_sem,seval,↓reduceIte];rfl) (fun h6=>?_) (fun h6=>?_)
  ·refine AW.seq_k fun K hK=>AW.region (by kernel_rfl) ?_
   simp -implicitDefEqProofs only[go_sem,seval,↓reduceIte]
   refine hK _ ?_
   clear hK K
   refine AW.ret ?_
   simp -implicitDefEqProofs only[go_sem,seval,↓reduceIte]
   refine endK_some ?_
   rfl
  ·cases h6
 | cons c r =>
  have hW:=hW3 c r rfl h2 h4
  refine AW.seq_k fun K hK=>AW.region (by kernel_rfl) ?_
  simp -implicitDefEqProofs only[go_sem,seval,↓reduceIte]
  refine hK _ ?_
  clear hK K
  refine AW.condS (by simp -implicitDefEqProofs only[go_sem,seval,↓reduceIte];rfl) (fun h6=>?_) (fun h6=>?_)
  ·cases h6
  refine AW.skip ?_
  simp -implicitDefEqProofs only[go_sem,seval,↓reduceIte]
  refine hK5 _ ?_
  refine AW.seq_k fun K hK=>AW.region (by kernel_rfl) ?_
  simp -implicitDefEqProofs only[go_sem,seval,↓reduceIte]
  refine hK _ ?_
  clear hK K
  refine AW.seq_k fun K hK=>AW.region (by kernel_rfl) ?_
  simp -implicitDefEqProofs only[go_sem,seval,↓reduceIte]
  refine CallA.pure hG (by kernel_rfl) ?_
  simp -implicitDefEqProofs only[go_sem,seval,↓reduceIte]
  refine (rLt_spec G hG c).mono ?_
  rintro _ _ rfl
  simp -implicitDefEqProofs only[go_sem,seval,↓reduceIte]
  refine hK _ ?_
  clear hK K
  refine AW.seq_k fun K7 hK7=>?_
  refine AW.seq_k fun K hK=>AW.region (by kernel_rfl) ?_
  simp -implicitDefEqProofs only[go_sem,seval,↓reduceIte]
  refine hK _ ?_
  clear hK K
  refine AW.block ?_
  generalize hs0:c::r=s at hs hW hK7 ⊢
  refine AW.for s.length (fun k (_:Unit)=>st [(0,.str s),(3,.bool ((s.take k).all isDig)),(4,.bool (isLt c && (s.take k).all isAl)),(5,.int .i64 k)] []) (fun k _=>True) 0 () (Nat.zero_le _) trivial
   (Weak.st (by simp -implicitDefEqProofs only[go_sem,seval,↓reduceIte];rw [List.all_nil,List.all_nil,Bool.and_true];exact ⟨rfl,rfl⟩) (by simp -implicitDefEqProofs only[go_sem,seval,↓reduceIte])) ?_
  intro k _ hk hR L8 hL8
  refine AW.seq_k fun K9 hK9=>?_
  refine AW.seq_k fun K hK=>AW.region (by kernel_rfl) ?_
  simp -implicitDefEqProofs only[go_sem,seval,↓reduceIte]
  refine hK _ ?_
  clear hK K
  refine AW.condS (by simp -implicitDefEqProofs only[go_sem,seval,↓reduceIte];rfl) (fun h10=>?_) (fun h10=>?_)
  ·have hk1:k<s.length:=by simpa using h10
   have hg:=getE_of hk1
   have htk:s.take (k+1)=s.take k++[s[k]]:=by rw [List.take_succ_eq_append_getElem hk1]
   generalize s[k]=x at hg htk
   refine AW.skip ?_
   simp -implicitDefEqProofs only[go_sem,seval,↓reduceIte]
   refine hK9 _ ?_
   refine AW.seq_k fun K11 hK11=>?_
   refine AW.block ?_
   have ha:∀ p:UInt8→Bool,(s.take (k+1)).all p=((s.take k).all p && p x):=fun p=>by rw [htk,List.all_append];simp
   refine AW.seqJ (fun (_:Unit)=>st [(0,.str s),(3,.bool ((s.take (k+1)).all isDig)),(4,.bool (isLt c && (s.take k).all isAl)),(5,.int .i64 k)] []) (fun _=>True) (fun K12 hK12=>?_) ?_
   ·rw [ha isDig] at hK12
    cases h1:(s.take k).all isDig with
    | true =>
     refine AW.region (by kernel_rfl) ?_
     simp -implicitDefEqProofs only[go_sem,seval,↓reduceIte,hg,h1]
     refine CallA.pure hG (by kernel_rfl) ?_
     simp -implicitDefEqProofs only[go_sem,seval,↓reduceIte]
     refine (rDg_spec G hG x).mono ?_
     rintro _ _ rfl
     simp -implicitDefEqProofs only[go_sem,seval,↓reduceIte]
     exact hK12 _ () trivial (Weak.st (by simp -implicitDefEqProofs only[go_sem,seval,↓reduceIte,h1];cases isDig x<;>rfl) (by simp -implicitDefEqProofs only[go_sem,seval,↓reduceIte]))
    | false =>
     refine AW.region (by kernel_rfl) ?_
     simp -implicitDefEqProofs only[go_sem,seval,↓reduceIte,hg,h1]
     exact hK12 _ () trivial (Weak.st (by simp -implicitDefEqProofs only[go_sem,seval,↓reduceIte,h1];try rfl) (by simp -implicitDefEqProofs only[go_sem,seval,↓reduceIte]))
   intro _ _
   have hN:(isLt c && (s.take (k+1)).all isAl)=((isLt c && (s.take k).all isAl) && (isLt x || isDig x)):=by
    rw [ha isAl,← Bool.and_assoc];rfl
   cases h1:(isLt c && (s.take k).all isAl) with
   | true =>
    rw [h1,Bool.true_and] at hN
    refine AW.region (by kernel_rfl) ?_
    simp -implicitDefEqProofs only[go_sem,seval,↓reduceIte,hg,h1]
    refine CallA.pure hG (by kernel_rfl) ?_
    simp -implicitDefEqProofs only[go_sem,seval,↓reduceIte]
    refine (rLt_spec G hG x).mono ?_
    rintro _ _ rfl
    cases h2:isLt x with
    | true =>
     simp -implicitDefEqProofs only[go_sem,seval,↓reduceIte,h2]
     refine hK11 _ ?_
     refine AW.region (by kernel_rfl) ?_
     simp -implicitDefEqProofs only[go_sem,seval,↓reduceIte]
     refine hL8 _ ⟨hk1,(),trivial,Weak.st (by rw [hN,h2];simp -implicitDefEqProofs only[go_sem,seval,↓reduceIte];exact ⟨rfl,congrArg _ (w64 (by omega) (by omega))⟩) (by simp -implicitDefEqProofs only[go_sem,seval,↓reduceIte])⟩
    | false =>
     simp -implicitDefEqProofs only[go_sem,seval,↓reduceIte,hg,h2]
     refine CallA.pure hG (by kernel_rfl) ?_
     simp -implicitDefEqProofs only[go_sem,seval,↓reduceIte]
     refine (rDg_spec G hG x).mono ?_
     rintro _ _ rfl
     simp -implicitDefEqProofs only[go_sem,seval,↓reduceIte]
     refine hK11 _ ?_
     refine AW.region (by kernel_rfl) ?_
     simp -implicitDefEqProofs only[go_sem,seval,↓reduceIte]
     refine hL8 _ ⟨hk1,(),trivial,Weak.st (by rw [hN,h2];simp -implicitDefEqProofs only[go_sem,seval,↓reduceIte];cases isDig x<;>exact ⟨rfl,congrArg _ (w64 (by omega) (by omega))⟩) (by simp -implicitDefEqProofs only[go_sem,seval,↓reduceIte])⟩
   | false =>
    rw [h1,Bool.false_and] at hN
    refine AW.region (by kernel_rfl) ?_
    simp -implicitDefEqProofs only[go_sem,seval,↓reduceIte,hg,h1]
    refine hK11 _ ?_
    refine AW.region (by kernel_rfl) ?_
    simp -implicitDefEqProofs only[go_sem,seval,↓reduceIte]
    refine hL8 _ ⟨hk1,(),trivial,Weak.st (by rw [hN];simp -implicitDefEqProofs only[go_sem,seval,↓reduceIte];try exact congrArg _ (w64 (by omega) (by omega))) (by simp -implicitDefEqProofs only[go_sem,seval,↓reduceIte])⟩
  ·have hk1:k=s.length:=by simp at h10;omega
   rw [hk1,List.take_length]
   refine AW.exit ?_
   simp -implicitDefEqProofs only[go_sem,seval,↓reduceIte]
   refine hK7 _ ?_
   refine AW.seq_k fun K12 hK12=>?_
   refine AW.seq_k fun K hK=>AW.region (by kernel_rfl) ?_
   simp -implicitDefEqProofs only[go_sem,seval,↓reduceIte]
   refine hK _ ?_
   clear hK K
   refine AW.condS (by simp -implicitDefEqProofs only[go_sem,seval,↓reduceIte];rfl) (fun h13=>?_) (fun h13=>?_)
   ·refine AW.seq_k fun K hK=>AW.region (by kernel_rfl) ?_
    simp -implicitDefEqProofs only[go_sem,seval,↓reduceIte]
    refine hK _ ?_
    clear hK K
    refine AW.ret ?_
    simp -implicitDefEqProofs only[go_sem,seval,↓reduceIte]
    refine endK_some ?_
    rw [hW,if_pos h13];rfl
   refine AW.skip ?_
   simp -implicitDefEqProofs only[go_sem,seval,↓reduceIte]
   refine hK12 _ ?_
   refine AW.seq_k fun K14 hK14=>?_
   refine AW.seq_k fun K hK=>AW.region (by kernel_rfl) ?_
   simp -implicitDefEqProofs only[go_sem,seval,↓reduceIte]
   refine hK _ ?_
   clear hK K
   refine AW.condS (by simp -implicitDefEqProofs only[go_sem,seval,↓reduceIte];rfl) (fun h15=>?_) (fun h15=>?_)
   ·refine AW.seq_k fun K hK=>AW.region (by kernel_rfl) ?_
    simp -implicitDefEqProofs only[go_sem,seval,↓reduceIte]
    refine hK _ ?_
    clear hK K
    refine AW.ret ?_
    simp -implicitDefEqProofs only[go_sem,seval,↓reduceIte]
    refine endK_some ?_
    rw [hW,if_neg (by rw [h13];simp),if_pos h15];rfl
   refine AW.skip ?_
   simp -implicitDefEqProofs only[go_sem,seval,↓reduceIte]
   refine hK14 _ ?_
   refine AW.seq_k fun K hK=>AW.region (by kernel_rfl) ?_
   simp -implicitDefEqProofs only[go_sem,seval,↓reduceIte]
   refine hK _ ?_
   clear hK K
   refine AW.ret ?_
   simp -implicitDefEqProofs only[go_sem,seval,↓reduceIte]
   refine endK_some ?_
   rw [hW,if_neg (by rw [h13];simp),if_neg (by rw [h15];simp)];rfl
theorem rIs_spec (G:Nat→V) (hG:GOk G) (s:List UInt8) (hs:s.length<1000000):Spec Tryz.prog G 81 [.str s] hNone (fun v _=>v = .int .u8 (isP s)):=by
 refine Spec.of_code' 0 8 [.tmp 2] Tryz.func81 rfl rfl rfl rfl fun X=>?_
 rw [isP_whole]
 refine AW.seq_k fun K hK=>AW.region (by kernel_rfl) ?_
 simp -implicitDefEqProofs only[go_sem,seval,↓reduceIte]
 refine hK _ ?_
 clear hK K
 refine AW.seq_k fun K1 hK1=>?_
 refine AW.seq_k fun K hK=>AW.region (by kernel_rfl) ?_
 simp -implicitDefEqProofs only[go_sem,seval,↓reduceIte]
 refine hK _ ?_
 clear hK K
 refine AW.condS (by simp -implicitDefEqProofs only[go_sem,seval,↓reduceIte];rfl) (fun h2=>?_) (fun h2=>?_)
 ·have h2:s.length > 64:=by have h2:decide ((s.length:Int) > 64)=true:=h2;simp at h2;omega
  refine AW.seq_k fun K hK=>AW.region (by kernel_rfl) ?_
  simp -implicitDefEqProofs only[go_sem,seval,↓reduceIte]
  refine hK _ ?_
  clear hK K
  refine AW.ret ?_
  simp -implicitDefEqProofs only[go_sem,seval,↓reduceIte]
  refine endK_some ?_
  rw [if_pos h2];rfl
 ·have h2:¬ s.length > 64:=by have h2:decide ((s.length:Int) > 64)=false:=h2;simp at h2;omega
  refine AW.skip ?_
  simp -implicitDefEqProofs only[go_sem,seval,↓reduceIte]
  refine hK1 _ ?_
  refine AW.seq_k fun K hK=>AW.region (by kernel_rfl) ?_
  simp -implicitDefEqProofs only[go_sem,seval,↓reduceIte]
  refine CallA.pure hG (by kernel_rfl) ?_
  simp -implicitDefEqProofs only[go_sem,seval,↓reduceIte]
  refine (rWhole_spec G hG s hs).mono ?_
  rintro _ _ rfl
  simp -implicitDefEqProofs only[go_sem,seval,↓reduceIte]
  refine hK _ ?_
  clear hK K
  refine AW.ret ?_
  simp -implicitDefEqProofs only[go_sem,seval,↓reduceIte]
  refine endK_some ?_
  rw [if_neg h2]
end Go.Hs
end
