/- Part 36 of the proof of a statement of seat YtohdjmgdaaipaaaGreatDoor: HsHLex4. -/
import Derived.Test.YtohdjmgdaaipaaaGreatDoorPart34
import Derived.Test.YtohdjmgdaaipaaaGreatDoorPart35
set_option linter.unusedSimpArgs false
set_option linter.unusedVariables false
section
namespace Go.Hs
open Go.Proofs
set_option maxRecDepth 10000
theorem catMax {m:Nat} (h:m<1000000):((m:Int) > IntKind.i64.max)=False:=by
 rw [eq_iff_iff,iff_false,show IntKind.i64.max=9223372036854775807 from rfl];omega
def encFk (p:Nat × Nat):V := .tuple [.int .i64 p.1,.int .u8 p.2]
theorem lFirst_spec (G:Nat→V) (hE:GExp G) (s:List UInt8) (hs:s.length<100000):Spec Tryz.prog G 87 [.str s] hNone (fun v _=>v=encFk (firstP s)):=by
 have hG:=hE.ok
 refine Spec.of_code' 0 42 [.tmp 2,.tmp 3] Tryz.func87 rfl rfl rfl rfl fun X=>?_
 refine AW.seq_k fun K hK=>AW.region (by kernel_rfl) ?_
 simp -implicitDefEqProofs only[go_sem,seval,↓reduceIte]
 intro g1
 refine hK _ ?_
 clear hK K
 refine AW.seq_k fun K1 hK1=>?_
 refine AW.block ?_
 cases s with
 | nil =>
  refine AW.seq_k fun K hK=>AW.region (by kernel_rfl) ?_
  simp -implicitDefEqProofs only[go_sem,seval,↓reduceIte]
  refine hK _ ?_
  clear hK K
  refine AW.condS (by simp -implicitDefEqProofs only[go_sem,seval,↓reduceIte];rfl) (fun h2=>?_) (fun h2=>?_)
  ·refine AW.seq_k fun K hK=>AW.region (by kernel_rfl) ?_
   simp -implicitDefEqProofs only[go_sem,seval,↓reduceIte]
   refine hK _ ?_
   clear hK K
   refine AW.ret ?_
   simp -implicitDefEqProofs only[go_sem,seval,↓reduceIte]
   refine endK_some ?_
   rfl
  ·cases h2
 | cons c r =>
  cases hp:hasPre [45,45] (c::r) with
  | true =>
   refine AW.seq_k fun K hK=>AW.region (by kernel_rfl) ?_
   simp -implicitDefEqProofs only[go_sem,seval,↓reduceIte]
   refine CallA.pure hG (by kernel_rfl) ?_
   simp -implicitDefEqProofs only[go_sem,seval,↓reduceIte]
   refine (hasPrefix_spec G _ _).mono ?_
   rintro _ _ rfl
   simp -implicitDefEqProofs only[go_sem,seval,↓reduceIte,hp]
   refine hK _ ?_
   clear hK K
   refine AW.condS (by simp -implicitDefEqProofs only[go_sem,seval,↓reduceIte];rfl) (fun h2=>?_) (fun h2=>?_)
   ·refine AW.seq_k fun K hK=>AW.region (by kernel_rfl) ?_
    simp -implicitDefEqProofs only[go_sem,seval,↓reduceIte]
    refine hK _ ?_
    clear hK K
    refine AW.ret ?_
    simp -implicitDefEqProofs only[go_sem,seval,↓reduceIte]
    refine endK_some ?_
    rw [firstP_cons,if_pos hp];rfl
   ·cases h2
  | false =>
   refine AW.seq_k fun K hK=>AW.region (by kernel_rfl) ?_
   simp -implicitDefEqProofs only[go_sem,seval,↓reduceIte]
   refine CallA.pure hG (by kernel_rfl) ?_
   simp -implicitDefEqProofs only[go_sem,seval,↓reduceIte]
   refine (hasPrefix_spec G _ _).mono ?_
   rintro _ _ rfl
   simp -implicitDefEqProofs only[go_sem,seval,↓reduceIte,hp]
   refine hK _ ?_
   clear hK K
   refine AW.condS (by simp -implicitDefEqProofs only[go_sem,seval,↓reduceIte];rfl) (fun h2=>?_) (fun h2=>?_)
   ·cases h2
   clear h2
   refine AW.seq_k fun K hK=>AW.region (by kernel_rfl) ?_
   simp -implicitDefEqProofs only[go_sem,seval,↓reduceIte]
   refine CallA.pure hG (by kernel_rfl) ?_
   simp -implicitDefEqProofs only[go_sem,seval,↓reduceIte]
   refine (lDigit_spec G hG c).mono ?_
   rintro _ _ rfl
   simp -implicitDefEqProofs only[go_sem,seval,↓reduceIte]
   refine hK _ ?_
   clear hK K
   refine AW.condS (by simp -implicitDefEqProofs only[go_sem,seval,↓reduceIte];rfl) (fun h3=>?_) (fun h3=>?_)
   ·refine AW.seq_k fun K hK=>AW.region (by kernel_rfl) ?_
    simp -implicitDefEqProofs only[go_sem,seval,↓reduceIte]
    refine CallA.pure hG (by kernel_rfl) ?_
    simp -implicitDefEqProofs only[go_sem,seval,↓reduceIte]
    refine (lRun_spec G hG _ (by omega) (fDigit hG)).mono ?_
    rintro _ _ rfl
    simp -implicitDefEqProofs only[go_sem,seval,↓reduceIte]
    refine hK _ ?_
    clear hK K
    refine AW.ret ?_
    simp -implicitDefEqProofs only[go_sem,seval,↓reduceIte]
    refine endK_some ?_
    rw [first_dig h3];rfl
   ·refine AW.seq_k fun K hK=>AW.region (by kernel_rfl) ?_
    simp -implicitDefEqProofs only[go_sem,seval,↓reduceIte]
    refine CallA.pure hG (by kernel_rfl) ?_
    simp -implicitDefEqProofs only[go_sem,seval,↓reduceIte]
    refine (lLetter_spec G hG c).mono ?_
    rintro _ _ rfl
    simp -implicitDefEqProofs only[go_sem,seval,↓reduceIte]
    refine hK _ ?_
    clear hK K
    refine AW.condS (by simp -implicitDefEqProofs only[go_sem,seval,↓reduceIte];rfl) (fun h4=>?_) (fun h4=>?_)
    ·have hn:=runL_le isAl (c::r)
     have hw:=words_contains ((c::r).take (runL isAl (c::r))) (runL_all_take isAl (c::r))
     have hf:=first_lt (r:=r) h4
     refine AW.seq_k fun K hK=>AW.region (by kernel_rfl) ?_
     simp -implicitDefEqProofs only[go_sem,seval,↓reduceIte]
     refine CallA.pure hG (by kernel_rfl) ?_
     simp -implicitDefEqProofs only[go_sem,seval,↓reduceIte]
     refine (lRun_spec G hG _ (by omega) (fAl hG)).mono ?_
     rintro _ _ rfl
     simp -implicitDefEqProofs only[go_sem,seval,↓reduceIte]
     refine hK _ ?_
     clear hK K
     generalize runL isAl (c::r)=n at hn hw hf ⊢
     have hn:n≤r.length+1:=hn
     refine AW.seq_k fun K5 hK5=>?_
     have hl0:(List.take n (c::r)).length≤100000:=by rw [List.length_take];omega
     have hl1:=catMax (m:=1+(List.take n (c::r)).length) (by omega)
     have hl2:=catMax (m:=(List.take n (c::r)).length+1+1) (by omega)
     refine AW.seq_k fun K hK=>AW.region (by kernel_rfl) ?_
     simp -implicitDefEqProofs only[go_sem,seval,↓reduceIte,hl1,hl2,hn,Nat.zero_le,Nat.sub_zero,List.append_eq,List.cons_append,List.nil_append]
     refine CallA.pure hG (by kernel_rfl) ?_
     simp -implicitDefEqProofs only[go_sem,seval,↓reduceIte]
     refine (contains_spec G hE wordsT _ (by decide)).mono ?_
     rintro _ _ rfl
     simp -implicitDefEqProofs only[go_sem,seval,↓reduceIte]
     rw [hw]
     refine hK _ ?_
     clear hK K
     refine AW.condS (by simp -implicitDefEqProofs only[go_sem,seval,↓reduceIte];rfl) (fun h6=>?_) (fun h6=>?_)
     ·refine AW.seq_k fun K hK=>AW.region (by kernel_rfl) ?_
      simp -implicitDefEqProofs only[go_sem,seval,↓reduceIte]
      refine hK _ ?_
      clear hK K
      refine AW.ret ?_
      simp -implicitDefEqProofs only[go_sem,seval,↓reduceIte]
      refine endK_some ?_
      rw [hf,if_pos h6];rfl
     ·refine AW.skip ?_
      simp -implicitDefEqProofs only[go_sem,seval,↓reduceIte]
      refine hK5 _ ?_
      refine AW.seq_k fun K hK=>AW.region (by kernel_rfl) ?_
      simp -implicitDefEqProofs only[go_sem,seval,↓reduceIte]
      refine hK _ ?_
      clear hK K
      refine AW.ret ?_
      simp -implicitDefEqProofs only[go_sem,seval,↓reduceIte]
      refine endK_some ?_
      rw [hf,if_neg (by rw [h6];simp)];rfl
    ·refine AW.skip ?_
     simp -implicitDefEqProofs only[go_sem,seval,↓reduceIte]
     refine hK1 _ ?_
     have hf:=first_no (c:=c) (r:=r) (by unfold isAl;rw [h3,h4];rfl) hp
     obtain ⟨cg,hsg⟩:=hE.sg
     refine AW.seq_k fun K hK=>AW.regionAt 0 (by kernel_rfl) rfl rfl ?_
     simp -implicitDefEqProofs only[go_sem,seval,↓reduceIte,List.take_zero]
     refine ⟨_,Gives.sliceView Tryz.underlying206 (by kernel_rfl) (c:=cg) (cs:=signsL.map V.str) (by simp -implicitDefEqProofs only[go_sem,seval,↓reduceIte,hsg]) rfl (fun v hv=>by obtain ⟨t,_,rfl⟩:=List.mem_map.1 hv;rfl),?_⟩
     refine CallA.bor hG [encSl cg.ent 1 V.str (.mk true signsL),.func (.func 152) [] [.view .old (.str (c::r))]] (by kernel_rfl) ⟨?_,Rd.funcL ⟨?_,trivial⟩,trivial⟩ ?_
     ·exact Rd.im (Im.enc (c:=cg) (m:=1) (fun x y hy=>by simp [V.cells] at hy;subst hy;exact .str _) (.mk true signsL)) (recol_encS _ _ _ (.mk true signsL))
     ·exact Rd.ptr (v := .str (c::r)) (c := .new) (fz:=0) (by simp -implicitDefEqProofs only[go_sem,seval,↓reduceIte];try rfl) (by intro y hy;simp [V.cells] at hy;subst hy;exact .str _) (by simp -implicitDefEqProofs only[go_sem,seval,↓reduceIte])
     refine (sIndexFunc_spec G hG _ (.mk true signsL) (by decide) (fPre hG (c::r))).mono ?_
     rintro _ _ rfl
     refine ⟨.int _ _,?_⟩
     simp -implicitDefEqProofs only[go_sem,seval,↓reduceIte]
     refine hK _ ?_
     clear hK K
     have hN:sgnN (c::r)=match signsL.findIdx? (hasPre · (c::r)) with | some i=>(signsL.getD i []).length | none=>0:=by
      unfold sgnN
      rw [List.find?_eq_bind_findIdx?_getElem?]
      cases hi:signsL.findIdx? (hasPre · (c::r)) with
      | none=>rfl
      | some i =>
       have hlt:i<signsL.length:=(List.findIdx?_eq_some_iff_getElem.1 hi).1
       simp only [Option.bind_some,List.getElem?_eq_getElem hlt,List.getD_eq_getElem?_getD,Option.getD_some]
     have hI:idxP (hasPre · (c::r)) signsL=match signsL.findIdx? (hasPre · (c::r)) with | some i=>(i:Int) | none => -1:=rfl
     have hne:∀ i,signsL.findIdx? (hasPre · (c::r))=some i→i<14∧(signsL.getD i []).length≠0:=fun i hi=>by
      have h1:=List.findIdx?_eq_some_iff_getElem.1 hi
      obtain ⟨hlt,_⟩:=h1
      have hlt:i<14:=hlt
      refine ⟨hlt,?_⟩
      have:∀ i,i<14→(signsL.getD i []).length≠0:=by decide
      exact this i hlt
     rw [hI]
     rw [hN] at hf
     cases hi:signsL.findIdx? (hasPre · (c::r)) with
     | none =>
      rw [hi] at hf
      refine AW.seq_k fun K6 hK6=>?_
      refine AW.seq_k fun K hK=>AW.region (by kernel_rfl) ?_
      simp -implicitDefEqProofs only[go_sem,seval,↓reduceIte]
      refine hK _ ?_
      clear hK K
      refine AW.condS (by simp -implicitDefEqProofs only[go_sem,seval,↓reduceIte];rfl) (fun h7=>?_) (fun h7=>?_)
      ·refine AW.seq_k fun K hK=>AW.region (by kernel_rfl) ?_
       simp -implicitDefEqProofs only[go_sem,seval,↓reduceIte]
       refine hK _ ?_
       clear hK K
       refine AW.ret ?_
       simp -implicitDefEqProofs only[go_sem,seval,↓reduceIte]
       refine endK_some ?_
       rw [hf];rfl
      ·cases h7
     | some i =>
      rw [hi] at hf
      obtain ⟨hi14,hi0⟩:=hne i hi
      refine AW.seq_k fun K6 hK6=>?_
      refine AW.seq_k fun K hK=>AW.region (by kernel_rfl) ?_
      simp -implicitDefEqProofs only[go_sem,seval,↓reduceIte]
      refine hK _ ?_
      clear hK K
      refine AW.condS (by simp -implicitDefEqProofs only[go_sem,seval,↓reduceIte];rfl) (fun h7=>?_) (fun h7=>?_)
      ·have h7:decide ((i:Int)<0)=true:=h7
       simp at h7;omega
      ·refine AW.skip ?_
       simp -implicitDefEqProofs only[go_sem,seval,↓reduceIte]
       refine hK6 _ ?_
       have hge:(signsL.map V.str)[i]? = some (.str (signsL.getD i [])):=by
        have hlt:i<signsL.length:=hi14
        rw [List.getElem?_map,List.getElem?_eq_getElem hlt,List.getD_eq_getElem?_getD,List.getElem?_eq_getElem hlt];rfl
       have hi14':(i:Int)<14:=by omega
       refine AW.seq_k fun K hK=>AW.region (by kernel_rfl) ?_
       simp -implicitDefEqProofs only[go_sem,seval,↓reduceIte,hsg,hge,hi14',Int.natCast_nonneg,Nat.mul_one]
       refine hK _ ?_
       clear hK K
       refine AW.ret ?_
       simp -implicitDefEqProofs only[go_sem,seval,↓reduceIte]
       refine endK_some ?_
       rw [hf]
       show _=encFk ((signsL.getD i []).length,if (signsL.getD i []).length=0 then 0 else 4)
       rw [if_neg hi0];rfl
theorem lIs_spec (G:Nat→V) (hE:GExp G) (s:List UInt8) (hs:s.length<100000):Spec Tryz.prog G 101 [.str s] hNone (fun v _=>v = .int .u8 (isP s)):=by
 have hG:=hE.ok
 refine Spec.of_code' 0 19 [.tmp 2] Tryz.func101 rfl rfl rfl rfl fun X=>?_
 refine AW.seq_k fun K hK=>AW.region (by kernel_rfl) ?_
 simp -implicitDefEqProofs only[go_sem,seval,↓reduceIte]
 refine hK _ ?_
 clear hK K
 refine AW.seq_k fun K hK=>AW.region (by kernel_rfl) ?_
 simp -implicitDefEqProofs only[go_sem,seval,↓reduceIte]
 refine CallA.pure hG (by kernel_rfl) ?_
 simp -implicitDefEqProofs only[go_sem,seval,↓reduceIte]
 refine (lFirst_spec G hE s hs).mono ?_
 rintro _ _ rfl
 have hI:isP s=if (firstP s).1≠s.length∨(firstP s).1 > 64 then 0 else (firstP s).2:=rfl
 generalize firstP s=p at hI ⊢
 obtain ⟨n,k⟩:=p
 simp -implicitDefEqProofs only[go_sem,seval,↓reduceIte,encFk]
 refine hK _ ?_
 clear hK K
 refine AW.seq_k fun K2 hK2=>?_
 by_cases h1:n=s.length
 ·have e1:((n:Int) != (s.length:Int))=false:=by simp [h1]
  refine AW.seq_k fun K hK=>AW.region (by kernel_rfl) ?_
  simp -implicitDefEqProofs only[go_sem,seval,↓reduceIte,e1]
  refine hK _ ?_
  clear hK K
  refine AW.condS (by simp -implicitDefEqProofs only[go_sem,seval,↓reduceIte];rfl) (fun h2=>?_) (fun h2=>?_)
  ·have h2:n > 64:=by have h2:decide ((n:Int) > 64)=true:=h2;simp at h2;omega
   refine AW.seq_k fun K hK=>AW.region (by kernel_rfl) ?_
   simp -implicitDefEqProofs only[go_sem,seval,↓reduceIte]
   refine hK _ ?_
   clear hK K
   refine AW.ret ?_
   simp -implicitDefEqProofs only[go_sem,seval,↓reduceIte]
   refine endK_some ?_
   rw [hI,if_pos (.inr h2)];rfl
  ·have h2:¬ n > 64:=by have h2:decide ((n:Int) > 64)=false:=h2;simp at h2;omega
   refine AW.skip ?_
   simp -implicitDefEqProofs only[go_sem,seval,↓reduceIte]
   refine hK2 _ ?_
   refine AW.seq_k fun K hK=>AW.region (by kernel_rfl) ?_
   simp -implicitDefEqProofs only[go_sem,seval,↓reduceIte]
   refine hK _ ?_
   clear hK K
   refine AW.ret ?_
   simp -implicitDefEqProofs only[go_sem,seval,↓reduceIte]
   refine endK_some ?_
   rw [hI,if_neg (fun h=>h.elim (fun h=>h h1) h2)]
 ·have e1:((n:Int) != (s.length:Int))=true:=by
   have h1:¬ ((n:Int)=(s.length:Int)):=by omega
   simpa using h1
  refine AW.seq_k fun K hK=>AW.region (by kernel_rfl) ?_
  simp -implicitDefEqProofs only[go_sem,seval,↓reduceIte,e1]
  refine hK _ ?_
  clear hK K
  refine AW.condS (by simp -implicitDefEqProofs only[go_sem,seval,↓reduceIte];rfl) (fun h2=>?_) (fun h2=>?_)
  ·refine AW.seq_k fun K hK=>AW.region (by kernel_rfl) ?_
   simp -implicitDefEqProofs only[go_sem,seval,↓reduceIte]
   refine hK _ ?_
   clear hK K
   refine AW.ret ?_
   simp -implicitDefEqProofs only[go_sem,seval,↓reduceIte]
   refine endK_some ?_
   rw [hI,if_pos (.inl h1)];rfl
  ·cases h2
def encTk (t:Tk):V := .agg [.int .u8 t.kind,.str t.text,.int .i64 t.pos]
theorem encTk_cells (t:Tk):(encTk t).cells.length=3:=rfl
def encTks (c:Col) (l:List Tk):V:=encSl c 3 encTk (grownS l)
def encTok (r:List Tk × Int × Int):V := .tuple [encTks .new r.1,.int .i64 r.2.1,.int .i64 r.2.2]
theorem toksF_len:∀ (f:Nat) (s:List UInt8) (i:Nat) (acc:List Tk),(toksF f s i acc).1.length≤acc.length+(s.length-i)
 | 0,s,i,acc=>by rw [toksF];exact Nat.le_add_right _ _
 | f+1,s,i,acc=>by
  rw [toksF]
  split
  ·split
   ·exact Nat.zero_le _
   ·rename_i h1 h2
    have:=toksF_len f s (i+(firstP (s.drop i)).1+blk (s.drop (i+(firstP (s.drop i)).1))) (acc++[⟨(firstP (s.drop i)).2,(s.drop i).take (firstP (s.drop i)).1,i⟩])
    simp only [List.length_append,List.length_singleton] at this
    omega
  ·exact Nat.le_add_right _ _
theorem lTokens_spec (G:Nat→V) (hE:GExp G) (s:List UInt8) (hs:s.length<100000):Spec Tryz.prog G 40 [.str s] hNone (fun v _=>v=encTok (toksP s)):=by
 have hG:=hE.ok
 refine Spec.of_code' 0 52 [.tmp 2,.tmp 3,.tmp 4] Tryz.func40 rfl rfl rfl rfl fun X=>?_
 refine AW.seq_k fun K hK=>AW.region (by kernel_rfl) ?_
 simp -implicitDefEqProofs only[go_sem,seval,↓reduceIte]
 refine hK _ ?_
 clear hK K
 refine AW.seq_k fun K1 hK1=>?_
 refine AW.seq_k fun K hK=>AW.region (by kernel_rfl) ?_
 simp -implicitDefEqProofs only[go_sem,seval,↓reduceIte]
 refine hK _ ?_
 clear hK K
 have hT:toksP s=if s.length > 65536 then ([],0,3) else toksF (s.length+1) s (blk s) []:=rfl
 refine AW.condS (by simp -implicitDefEqProofs only[go_sem,seval,↓reduceIte];rfl) (fun h2=>?_) (fun h2=>?_)
 ·have h2:s.length > 65536:=by have h2:decide ((s.length:Int) > 65536)=true:=h2;simp at h2;omega
  refine AW.seq_k fun K hK=>AW.region (by kernel_rfl) ?_
  simp -implicitDefEqProofs only[go_sem,seval,↓reduceIte]
  refine hK _ ?_
  clear hK K
  refine AW.ret ?_
  simp -implicitDefEqProofs only[go_sem,seval,↓reduceIte]
  refine endK_some ?_
  rw [hT,if_pos h2];rfl
 ·have h2:¬ s.length > 65536:=by have h2:decide ((s.length:Int) > 65536)=false:=h2;simp at h2;omega
  rw [if_neg h2] at hT
  refine AW.skip ?_
  simp -implicitDefEqProofs only[go_sem,seval,↓reduceIte]
  refine hK1 _ ?_
  refine AW.seq_k fun K3 hK3=>?_
  refine AW.seq_k fun K hK=>AW.region (by kernel_rfl) ?_
  simp -implicitDefEqProofs only[go_sem,seval,↓reduceIte]
  refine CallA.pure hG (by kernel_rfl) ?_
  simp -implicitDefEqProofs only[go_sem,seval,↓reduceIte]
  refine (lBlanks_spec G hG s (by omega)).mono ?_
  rintro _ _ rfl
  simp -implicitDefEqProofs only[go_sem,seval,↓reduceIte]
  refine hK _ ?_
  clear hK K
  have hb:=blk_le s
  refine AW.block ?_
  refine AW.while (fun (x:Nat × Nat × List Tk)=>st [(0,.str s),(2,grown 47 x.1 3 x.2.2),(3,.int .i64 x.2.1)] [(47,grownO x.1 encTk x.2.2)]) (fun x=>x.2.1≤s.length∧x.2.2.length≤x.2.1∧toksP s=toksF (s.length+1) s x.2.1 x.2.2) (fun x=>s.length-x.2.1) (0,blk s,[]) ⟨hb,Nat.zero_le _,hT⟩
   (Weak.st (by simp -implicitDefEqProofs only[go_sem,seval,↓reduceIte];try rfl) (by simp -implicitDefEqProofs only[go_sem,seval,↓reduceIte];try rfl)) ?_
  rintro ⟨gx,i,acc⟩ ⟨hi,hal,hR⟩ L2 hL2
  have hi:i≤s.length:=hi
  have hal:acc.length≤i:=hal
  have hR:toksP s=toksF (s.length+1) s i acc:=hR
  refine AW.seq_k fun K6 hK6=>?_
  refine AW.seq_k fun K hK=>AW.region (by kernel_rfl) ?_
  simp -implicitDefEqProofs only[go_sem,seval,↓reduceIte]
  refine hK _ ?_
  clear hK K
  refine AW.condS (by simp -implicitDefEqProofs only[go_sem,seval,↓reduceIte];rfl) (fun h4=>?_) (fun h4=>?_)
  ·have hi1:i<s.length:=by simpa using h4
   refine AW.skip ?_
   simp -implicitDefEqProofs only[go_sem,seval,↓reduceIte]
   refine hK6 _ ?_
   refine AW.seq_k fun K7 hK7=>?_
   refine AW.block ?_
   have hfl:=firstP_le (s.drop i)
   rw [List.length_drop] at hfl
   have hst:=toksF_step (f:=s.length+1) (acc:=acc) hi1 (by omega)
   have hbd:=toksF_bad (f:=s.length+1) (acc:=acc) hi1 (by omega)
   refine AW.seq_k fun K hK=>AW.region (by kernel_rfl) ?_
   simp -implicitDefEqProofs only[go_sem,seval,↓reduceIte,hi,Nat.le_refl]
   refine CallA.pure hG (by kernel_rfl) ?_
   simp -implicitDefEqProofs only[go_sem,seval,↓reduceIte]
   refine (lFirst_spec G hE (s.drop i) (by simp;omega)).mono ?_
   rintro _ _ rfl
   generalize firstP (s.drop i)=p at hfl hst hbd ⊢
   obtain ⟨n,k⟩:=p
   simp only at hfl hst hbd
   simp -implicitDefEqProofs only[go_sem,seval,↓reduceIte,encFk]
   refine hK _ ?_
   clear hK K
   refine AW.seq_k fun K8 hK8=>?_
   by_cases hn0:n=0
   ·have e0:((n:Int)==0)=true:=by simp [hn0]
    refine AW.seq_k fun K hK=>AW.region (by kernel_rfl) ?_
    simp -implicitDefEqProofs only[go_sem,seval,↓reduceIte,e0]
    refine hK _ ?_
    clear hK K
    refine AW.condS (by simp -implicitDefEqProofs only[go_sem,seval,↓reduceIte];rfl) (fun h9=>?_) (fun h9=>?_)
    ·refine AW.seq_k fun K hK=>AW.region (by kernel_rfl) ?_
     simp -implicitDefEqProofs only[go_sem,seval,↓reduceIte]
     refine hK _ ?_
     clear hK K
     refine AW.ret ?_
     simp -implicitDefEqProofs only[go_sem,seval,↓reduceIte]
     refine endK_some ?_
     rw [hR,hbd (.inl hn0)];rfl
    ·cases h9
   ·have e0:((n:Int)==0)=false:=by
     rw [beq_eq_false_iff_ne];omega
    refine AW.seq_k fun K hK=>AW.region (by kernel_rfl) ?_
    simp -implicitDefEqProofs only[go_sem,seval,↓reduceIte,e0]
    refine hK _ ?_
    clear hK K
    refine AW.condS (by simp -implicitDefEqProofs only[go_sem,seval,↓reduceIte];rfl) (fun h9=>?_) (fun h9=>?_)
    ·have h9:n > 64:=by have h9:decide ((n:Int) > 64)=true:=h9;simp at h9;omega
     refine AW.seq_k fun K hK=>AW.region (by kernel_rfl) ?_
     simp -implicitDefEqProofs only[go_sem,seval,↓reduceIte]
     refine hK _ ?_
     clear hK K
     refine AW.ret ?_
     simp -implicitDefEqProofs only[go_sem,seval,↓reduceIte]
     refine endK_some ?_
     rw [hR,hbd (.inr h9)];rfl
    ·have h9:¬ n > 64:=by have h9:decide ((n:Int) > 64)=false:=h9;simp at h9;omega
     refine AW.skip ?_
     simp -implicitDefEqProofs only[go_sem,seval,↓reduceIte]
     refine hK8 _ ?_
     have hst:=hst (fun h=>h.elim hn0 h9)
     have hw:IntKind.i64.wrap ((i:Int)+(n:Int))=((i+n:Nat):Int):=by rw [w64 (by omega) (by omega)];omega
     have hin:i≤i+n:=by omega
     have hin2:i+n≤s.length:=by omega
     have hsub:i+n-i=n:=by omega
     refine AW.seq_k fun K hK=>AW.region (by kernel_rfl) ?_
     simp -implicitDefEqProofs only[go_sem,seval,↓reduceIte,hw,hin,hin2,hsub]
     intro g46
     refine app_grown (f:=encTk) (l:=acc) (l2:=[⟨k,(s.drop i).take n,i⟩]) (g:=gx) encTk_cells rfl rfl rfl (by simp -implicitDefEqProofs only[go_sem,seval,↓reduceIte]) (roomOk_of (by omega) (by simp;omega)) fun g47=>?_
     simp -implicitDefEqProofs only[go_sem,seval,↓reduceIte]
     refine hK _ ?_
     clear hK K
     refine AW.region (by kernel_rfl) ?_
     simp -implicitDefEqProofs only[go_sem,seval,↓reduceIte,hw]
     refine hK7 _ ?_
     have hbl:=blk_le (s.drop (i+n))
     rw [List.length_drop] at hbl
     have hw2:IntKind.i64.wrap (((i+n:Nat):Int)+(blk (s.drop (i+n)):Nat))=((i+n+blk (s.drop (i+n)):Nat):Int):=by rw [w64 (by omega) (by omega)];omega
     refine AW.region (by kernel_rfl) ?_
     simp -implicitDefEqProofs only[go_sem,seval,↓reduceIte,hin2,Nat.le_refl]
     refine CallA.pure hG (by kernel_rfl) ?_
     simp -implicitDefEqProofs only[go_sem,seval,↓reduceIte]
     refine (lBlanks_spec G hG (s.drop (i+n)) (by simp;omega)).mono ?_
     rintro _ _ rfl
     simp -implicitDefEqProofs only[go_sem,seval,↓reduceIte]
     refine hL2 _ ⟨(g47,i+n+blk (s.drop (i+n)),acc++[⟨k,(s.drop i).take n,i⟩]),?_,⟨?_,?_,?_⟩,Weak.st (by simp -implicitDefEqProofs only[go_sem,seval,↓reduceIte];exact congrArg _ hw2) (by simp -implicitDefEqProofs only[go_sem,seval,↓reduceIte])⟩
     ·show s.length-(i+n+blk (s.drop (i+n)))<s.length-i
      omega
     ·show i+n+blk (s.drop (i+n))≤s.length
      omega
     ·show (acc++[_]).length≤i+n+blk (s.drop (i+n))
      simp only [List.length_append,List.length_singleton];omega
     ·rw [hR];exact hst
  ·have hi1:¬ i<s.length:=by simpa using h4
   refine AW.exit ?_
   simp -implicitDefEqProofs only[go_sem,seval,↓reduceIte]
   refine hK3 _ ?_
   refine AW.weak (Weak.stF (fun o=>o==47) (l:=[(2,encTks .new acc)]) (m:=[]) ?_ trivial) ?_
   ·simp -implicitDefEqProofs only[go_sem,seval,↓reduceIte]
    exact Fz.grown rfl rfl encTk_cells
   refine AW.seq_k fun K hK=>AW.region (by kernel_rfl) ?_
   simp -implicitDefEqProofs only[go_sem,seval,↓reduceIte]
   refine hK _ ?_
   clear hK K
   refine AW.ret ?_
   simp -implicitDefEqProofs only[go_sem,seval,↓reduceIte]
   refine endK_some ?_
   rw [hR,toksF_end hi1];rfl
end Go.Hs
end
